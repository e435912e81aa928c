/- Lemmas for the walk: C23, C24, C25. -/
import Derived.Test.YtfhhbkehlfipgaaCxG
import Derived.Test.YtfhhbkehlfipgaaCxH
import Derived.Test.YtfhhbkehlfipgaaCxD
section
set_option linter.unusedSimpArgs false
set_option linter.unusedVariables false
set_option linter.unnecessarySimpa false
set_option linter.unusedSectionVars false
namespace Go.Proofs.Ytfhhbkehlfipgaa
open Go.Tx
set_option maxRecDepth 100000
set_option maxHeartbeats 1000000
set_option linter.unusedSimpArgs false
set_option linter.unusedVariables false
/-! chunk.PutData, streams.piece -/
theorem meths186v : Meths.get meths 186 "tannoy/chunk.valid" = some 128 := by simp [Meths.get, meths]
theorem meths186w : Meths.get meths 186 "tannoy/chunk.write" = some 129 := by simp [Meths.get, meths]
/-- The octets of a piece. -/
def dataB (d : Dat) : List UInt8 := putB 4 d.tsn.toNat ++ (putB 2 d.st.toNat ++ putB 2 d.sq.toNat) ++ putB 4 d.pr.toNat ++ d.pl
theorem putData_ok {F : SF} {L nx : Nat} (d : Dat) : Con Try.prog 91 [.agg d.row] F L nx nx
      (if d.ok then .tup [.agg [.int .i64 0, .int .i64 (flD d.la d.fi d.lo 3), .str (dataB d)], .int .i64 0] else .tup [.agg [.int .i64 0, .int .i64 0, .str []], .int .i64 320]) [] [] := by
  have hva : ∀ (F : SF) (L nx : Nat), Con Try.prog 128 [.agg d.row] F L nx nx (.bool d.ok) [] [] := fun F L nx => dataValid_ok d
  cases hV : d.ok with
  | false =>
    rw [hV] at hva
    simp only [if_false, Bool.false_eq_true]
    refine Con.body (cxOk (L + 1)) rfl rfl (fn := Try.f91) (c := Try.f91.body.getD .skip) (by kernel_rfl) (by rfl) (by kernel_rfl) rfl (by simp) ?_
    intro F3 hF1 hF2
    simp only [Try.f91, cx, Dat.row, Nat.add_zero, go_sem, Meths.get, meths, Nat.reduceSub, Nat.reduceAdd, Nat.reduceMul, Nat.reduceEqDiff, Nat.reduceLT, Nat.reduceLeDiff, Nat.reduceBEq, Nat.reduceBNe, reduceIte, reduceCtorEq, Int.reduceToNat, String.reduceEq]
    refine CallVC.same (putBad_ok 186 _ 128 meths186v hva) ?_
    simp only [Nat.add_zero, go_sem, Meths.get, meths, Nat.reduceSub, Nat.reduceAdd, Nat.reduceMul, Nat.reduceEqDiff, Nat.reduceLT, Nat.reduceLeDiff, Nat.reduceBEq, Nat.reduceBNe, reduceIte, reduceCtorEq, Int.reduceToNat, String.reduceEq]
    exact PostF.same (p := True) (.inr rfl) (by simp only [resVal, resVals, resVal1, one, Nat.add_zero, go_sem, Meths.get, meths, Nat.reduceSub, Nat.reduceAdd, Nat.reduceMul, Nat.reduceEqDiff, Nat.reduceLT, Nat.reduceLeDiff, Nat.reduceBEq, Nat.reduceBNe, reduceIte, reduceCtorEq, Int.reduceToNat, String.reduceEq]) trivial (by simp [Tx.nf, nfl]) (by simp [UpdAll, keys])
  | true =>
    rw [hV] at hva
    simp only [if_true]
    have hB := hV
    unfold Dat.ok at hB
    simp only [Bool.and_eq_true, decide_eq_true_eq] at hB
    obtain ⟨⟨b1, b2⟩, ⟨b3, b4⟩, b5, b6, b7⟩ := hB
    obtain ⟨e1, c1⟩ := serB_nat b1
    obtain ⟨e2, c2⟩ := serB_nat b2
    obtain ⟨e3, c3⟩ := serB_nat b3
    obtain ⟨e4, c4⟩ := serB_nat b4
    have hpl : d.pl ≠ [] := by intro h; rw [h] at b5; simp at b5
    have hw : ∀ (F : SF) (L nx : Nat) (n : Nm), (n.l < L ∨ (n.l = L ∧ n.i < nx)) → bldF F n 181 none [] → Con Try.prog 129 [.agg d.row, .ptr n 0 0] F L nx (nx + 1) (.tup [.int .i64 0, .int .i64 (flD d.la d.fi d.lo 3)]) (bldU n 181 ⟨L, nx⟩ (dataB d)) [n] := by
      intro F L nx n hn hb
      have := dataWrite_ok (F := F) (L := L) (nx := nx) n hn d.tsn.toNat d.st.toNat d.sq.toNat d.pr.toNat d.fi d.la d.lo d.pl c1 c3 c4 c2 hpl (by omega) hb
      rw [← e1, ← e2, ← e3, ← e4] at this
      exact this
    refine Con.body (cxOk (L + 1)) rfl rfl (fn := Try.f91) (c := Try.f91.body.getD .skip) (by kernel_rfl) (by rfl) (by kernel_rfl) rfl (by simp) ?_
    intro F3 hF1 hF2
    simp only [Try.f91, cx, Dat.row, Nat.add_zero, go_sem, Meths.get, meths, Nat.reduceSub, Nat.reduceAdd, Nat.reduceMul, Nat.reduceEqDiff, Nat.reduceLT, Nat.reduceLeDiff, Nat.reduceBEq, Nat.reduceBNe, reduceIte, reduceCtorEq, Int.reduceToNat, String.reduceEq]
    refine CallVC.same (putGood_ok 186 _ 128 129 meths186v meths186w hva 0 (flD d.la d.fi d.lo 3) (dataB d) ?_ ?_ hw) ?_
    · intro h
      have := congrArg List.length h
      unfold dataB at this
      simp [putB_len] at this
    · unfold dataB
      simp only [List.length_append, putB_len]; omega
    simp only [Nat.add_zero, go_sem, Meths.get, meths, Nat.reduceSub, Nat.reduceAdd, Nat.reduceMul, Nat.reduceEqDiff, Nat.reduceLT, Nat.reduceLeDiff, Nat.reduceBEq, Nat.reduceBNe, reduceIte, reduceCtorEq, Int.reduceToNat, String.reduceEq]
    exact PostF.same (p := True) (.inr rfl) (by simp only [resVal, resVals, resVal1, one, Nat.add_zero, go_sem, Meths.get, meths, Nat.reduceSub, Nat.reduceAdd, Nat.reduceMul, Nat.reduceEqDiff, Nat.reduceLT, Nat.reduceLeDiff, Nat.reduceBEq, Nat.reduceBNe, reduceIte, reduceCtorEq, Int.reduceToNat, String.reduceEq]) trivial (by simp [Tx.nf, nfl]) (by simp [UpdAll, keys])
theorem piece_ok {F : SF} {L nx : Nat} (d : Dat) : Con Try.prog 62 [.agg d.row] F L nx nx (.bool d.ok) [] [] := by
  refine Con.body (cxOk (L + 1)) rfl rfl (fn := Try.f62) (c := Try.f62.body.getD .skip) (by kernel_rfl) (by rfl) (by kernel_rfl) rfl (by simp) ?_
  intro F3 hF1 hF2
  simp only [Try.f62, cx, Dat.row, Nat.add_zero, go_sem, Meths.get, meths, Nat.reduceSub, Nat.reduceAdd, Nat.reduceMul, Nat.reduceEqDiff, Nat.reduceLT, Nat.reduceLeDiff, Nat.reduceBEq, Nat.reduceBNe, reduceIte, reduceCtorEq, Int.reduceToNat, String.reduceEq]
  refine CallVC.same (putData_ok d) ?_
  cases hV : d.ok with
  | false =>
    simp only [if_false, Bool.false_eq_true, Nat.add_zero, go_sem, Meths.get, meths, Nat.reduceSub, Nat.reduceAdd, Nat.reduceMul, Nat.reduceEqDiff, Nat.reduceLT, Nat.reduceLeDiff, Nat.reduceBEq, Nat.reduceBNe, reduceIte, reduceCtorEq, Int.reduceToNat, String.reduceEq]
    exact .bool (.inr rfl) rfl rfl (by simp [UpdAll, keys])
  | true =>
    simp only [if_true, Nat.add_zero, go_sem, Meths.get, meths, Nat.reduceSub, Nat.reduceAdd, Nat.reduceMul, Nat.reduceEqDiff, Nat.reduceLT, Nat.reduceLeDiff, Nat.reduceBEq, Nat.reduceBNe, reduceIte, reduceCtorEq, Int.reduceToNat, String.reduceEq]
    exact .bool (.inr rfl) rfl rfl (by simp [UpdAll, keys])
end Go.Proofs.Ytfhhbkehlfipgaa
end

section
set_option linter.unusedSimpArgs false
set_option linter.unusedVariables false
set_option linter.unnecessarySimpa false
set_option linter.unusedSectionVars false
namespace Go.Proofs.Ytfhhbkehlfipgaa
open Go.Tx
set_option maxRecDepth 100000
set_option maxHeartbeats 4000000
set_option linter.unusedSimpArgs false
set_option linter.unusedVariables false
/-! state.due -/
/-- A list of numbers behind a state: frozen, or of this memory. -/
def InnV (F : SF) (v : PV) (rd : List Nm) (inn : List Int) : Prop :=
  (v = .fs 1 (inn.map eI) ∧ rd = []) ∨ ∃ m o, v = .sl m 0 inn.length ∧ rd = [m] ∧ F m = some (.rows 3 1 o true (inn.map eI))
theorem mPutV_new : ∀ (ps : List Dat) (t : Int) (v : PV), getT ps t = none → mPutV (ps.map tK) (ps.map tV) t v = ps.map tV ++ [v]
  | [], t, v, _ => rfl
  | d :: ps, t, v, h => by
    simp only [getT, List.find?_cons] at h
    split at h
    · cases h
    · rename_i hne
      simp only [List.map_cons, tK, mPutV]
      rw [if_neg (by simpa using hne)]
      have := mPutV_new ps t v h
      rw [this]; rfl
theorem mPutK_new (ps : List Dat) (t : Int) (h : getT ps t = none) : mPutK (ps.map tK) (ps.map tV) t = ps.map tK ++ [.int .i64 t] := by
  unfold mPutK
  rw [mGet_map, h]; rfl
theorem getT_take {ps : List Dat} (hnd : (ps.map Dat.tsn).Nodup) {i : Nat} (hi : i < ps.length) : getT (ps.take i) (ps[i]).tsn = none := by
  unfold getT
  rw [List.find?_eq_none]
  intro x hx hc
  obtain ⟨j, hj, rfl⟩ := List.getElem_of_mem hx
  rw [List.length_take] at hj
  simp only [List.getElem_take, beq_iff_eq] at hc
  have h1 : (ps.map Dat.tsn)[j]'(by simp; omega) = (ps.map Dat.tsn)[i]'(by simpa using hi) := by simpa using hc
  have := (List.getElem_inj hnd).1 h1
  omega
theorem compG_ne (ps : List Dat) (f : Dat) : ∀ (k : Nat) (d : Dat) (tx : List UInt8) (ns : List Int) (r : List UInt8 × List Int), compG ps f k d tx ns = some r → 0 < r.2.length
  | 0, _, _, _, _, h => by simp [compG] at h
  | k + 1, d, tx, ns, r, h => by
    rw [compG] at h
    split at h
    · cases h
    · split at h
      · injection h with h; subst h; simp
      · split at h
        · cases h
        · exact compG_ne ps f k _ _ _ r h
theorem complete_ne {ps : List Dat} {f : Dat} {m : Msg} {ns : List Int} (h : complete ps f = some (m, ns)) : 0 < ns.length := by
  unfold complete at h
  split at h
  · cases hc : compG ps f (ps.length + 1) f [] [] with
    | none => rw [hc] at h; cases h
    | some r =>
      rw [hc] at h
      simp only [Option.map_some, Option.some.injEq, Prod.mk.injEq] at h
      rw [← h.2]; exact compG_ne _ _ _ _ _ _ _ hc
  · cases h
theorem rowD {ps : List Dat} {i : Nat} (h : i < ps.length) : (ps.map Dat.row).getD i [] = (ps[i]).row := by simp [h, List.getD_eq_getElem?_getD]
theorem due_ok {F : SF} {L nx : Nat} (n : Nm) (hn : n.l ≤ L) (o p : Bool) (out num seen asked iv : PV) (inn : List Int) (rd : List Nm) (hiv : InnV F iv rd inn) (hrd : ∀ m ∈ rd, m.l ≤ L) (ps : List Dat) (hlen : ps.length ≤ 80) (hall : ∀ x ∈ ps, x.ok = true) (hst : ∀ x ∈ ps, x.st < inn.length) (hnd : (ps.map Dat.tsn).Nodup) (hil : inn.length ≤ 1000)
    (hF : F n = some (.rows 106 6 o p [[out, iv, .fs 8 (ps.map Dat.row), num, seen, asked]])) :
    Con Try.prog 63 [.ptr n 0 0] F L nx nx (resC (dueG inn ps)) [] ([n] ++ rd) := by
  refine Con.body (cxOk (L + 1)) rfl rfl (fn := Try.f63) (c := Try.f63.body.getD .skip) (by kernel_rfl) (by rfl) (by kernel_rfl) rfl  (by simp only [List.cons_append, List.nil_append, List.mem_cons]; rintro m (rfl | h); exact hn; exact hrd m h) ?_
  intro F3 hF1 hF2
  have hF := (hF1 n (by simp)).trans hF
  have o1 := nm_out' hn
  have o2 := nm_out hn
  simp only [Try.f63, cx, hF, o1, o2, Nat.add_zero, go_sem, Meths.get, meths, Nat.reduceSub, Nat.reduceAdd, Nat.reduceMul, Nat.reduceEqDiff, Nat.reduceLT, Nat.reduceLeDiff, Nat.reduceBEq, Nat.reduceBNe, reduceIte, reduceCtorEq, Int.reduceToNat, String.reduceEq]
  refine loopK.intro _ _ (I := fun i : Nat => ⟨[some (.ptr n 0 0), none, some (.ptr ⟨L + 1, 0⟩ 0 0), some (.nilS), some (.mp ⟨L + 1, 64⟩), none, none, none, none, none, none, none, none, none, none, none, some (.fs 8 (ps.map Dat.row)), some (.int .i64 ps.length), some (.int .i64 i), none, none, none, none, none, none, none, none, none, none, none, none, none, none, none, none, none, none, none, none, none, none, none, none, none, none, none, none, none, none, none, none, none, none, none, none, none, none, none, none, none, none, none, none, none, none, none, none, none],
    [(⟨L + 1, 0⟩, .rows 37 4 true true [[.int .i64 0, .int .i64 0, .bool false, .str []]]), (⟨L + 1, 64⟩, .map true true ((ps.take i).map tK) ((ps.take i).map tV))], 10000 * (i + 1)⟩) (pre := fun i => i ≤ ps.length) (μ := fun i => ps.length - i) 0 (by omega) ?_ ?_
  · refine Sub.of (fun n hn => hF2 n (by have : n.l = L + 1 := hn; omega)) (by simp only [go_sem, resVal, resVals, resVal1, one, Wk, WkL, WkLL, wkN, wkNL, wkNLL, UpdIn, UpdAll, BW, plainP, plainPL, subT, subH, subK, and_self, true_or, or_true, List.not_mem_nil, List.mem_cons, forall_eq, imp_self, implies_true, Nat.reduceSub, Nat.reduceAdd, Nat.reduceMul, Nat.reduceEqDiff, Nat.reduceLT, Nat.reduceLeDiff, Nat.reduceBEq, Nat.reduceBNe, reduceIte, reduceCtorEq, Int.reduceToNat, String.reduceEq, List.length_map, Int.natCast_zero]) ?_ (by simp only [go_sem, resVal, resVals, resVal1, one, Wk, WkL, WkLL, wkN, wkNL, wkNLL, UpdIn, UpdAll, BW, plainP, plainPL, subT, subH, subK, and_self, true_or, or_true, List.not_mem_nil, List.mem_cons, forall_eq, imp_self, implies_true, Nat.reduceSub, Nat.reduceAdd, Nat.reduceMul, Nat.reduceEqDiff, Nat.reduceLT, Nat.reduceLeDiff, Nat.reduceBEq, Nat.reduceBNe, reduceIte, reduceCtorEq, Int.reduceToNat, String.reduceEq]) (by simp)
    simp [subH, Tx.look]
  · intro i hi
    by_cases hlt : i < ps.length
    · have f1 : decide ((i : Int) < (ps.length : Int)) = true := dT (by omega)
      have r0 := rowD hlt
      have ht := getT_take hnd hlt
      have k1 := mPutK_new (ps.take i) _ ht
      have k2 := mPutV_new (ps.take i) (ps[i]).tsn (.agg (ps[i]).row) ht
      have e1 : (ps.take (i + 1)).map tK = (ps.take i).map tK ++ [.int .i64 (ps[i]).tsn] := by rw [List.take_succ_eq_append_getElem hlt, List.map_append]; rfl
      have e2 : (ps.take (i + 1)).map tV = (ps.take i).map tV ++ [.agg (ps[i]).row] := by rw [List.take_succ_eq_append_getElem hlt, List.map_append]; rfl
      rw [← e1] at k1
      rw [← e2] at k2
      have hik : intKeys ((ps.take i).map tK) := by intro k hk; obtain ⟨y, _, rfl⟩ := List.mem_map.1 hk; exact ⟨_, rfl⟩
      simp only [Dat.row] at k2
      simp only [f1, r0, Dat.row, nB, nB', k1, k2, List.length_map, Nat.add_zero, go_sem, Meths.get, meths, Nat.reduceSub, Nat.reduceAdd, Nat.reduceMul, Nat.reduceEqDiff, Nat.reduceLT, Nat.reduceLeDiff, Nat.reduceBEq, Nat.reduceBNe, reduceIte, reduceCtorEq, Int.reduceToNat, String.reduceEq]
      repeat refine And.intro (by first | omega | exact ⟨by omega, by omega⟩ | exact ⟨by omega, by omega, by omega⟩ | exact ⟨⟨by omega, by omega⟩, by omega, by omega⟩ | exact okDyn_num (fun x => x.i) (by kernel_rfl) | kernel_rfl | exact okDyn_num (fun _ => 0) (by kernel_rfl)) ?_
      refine ⟨i + 1, by omega, by omega, ?_⟩
      refine Sub.of (fun n hn => hF2 n (by have : n.l = L + 1 := hn; omega)) (by simp only [go_sem, resVal, resVals, resVal1, one, Wk, WkL, WkLL, wkN, wkNL, wkNLL, UpdIn, UpdAll, BW, plainP, plainPL, subT, subH, subK, and_self, true_or, or_true, List.not_mem_nil, List.mem_cons, forall_eq, imp_self, implies_true, Nat.reduceSub, Nat.reduceAdd, Nat.reduceMul, Nat.reduceEqDiff, Nat.reduceLT, Nat.reduceLeDiff, Nat.reduceBEq, Nat.reduceBNe, reduceIte, reduceCtorEq, Int.reduceToNat, String.reduceEq, Int.natCast_succ]) ?_ (by simp only [go_sem, resVal, resVals, resVal1, one, Wk, WkL, WkLL, wkN, wkNL, wkNLL, UpdIn, UpdAll, BW, plainP, plainPL, subT, subH, subK, and_self, true_or, or_true, List.not_mem_nil, List.mem_cons, forall_eq, imp_self, implies_true, Nat.reduceSub, Nat.reduceAdd, Nat.reduceMul, Nat.reduceEqDiff, Nat.reduceLT, Nat.reduceLeDiff, Nat.reduceBEq, Nat.reduceBNe, reduceIte, reduceCtorEq, Int.reduceToNat, String.reduceEq]) (by simp only []; omega)
      simp [subH, Tx.look, nB, nB']
    · have f1 : decide ((i : Int) < (ps.length : Int)) = false := dF (by omega)
      have e : i = ps.length := by omega
      subst e
      have e3 : ps.take ps.length = ps := List.take_of_length_le (by omega)
      simp only [f1, hF, o1, o2, nB, nB', e3, Nat.add_zero, go_sem, Meths.get, meths, Nat.reduceSub, Nat.reduceAdd, Nat.reduceMul, Nat.reduceEqDiff, Nat.reduceLT, Nat.reduceLeDiff, Nat.reduceBEq, Nat.reduceBNe, reduceIte, reduceCtorEq, Int.reduceToNat, String.reduceEq]
      obtain ⟨g, hg⟩ : ∃ g : Dat → Option (Msg × List Int), g = fun d => if !d.lo && d.sq != inn.getD d.st.toNat 0 then none else complete ps d := ⟨_, rfl⟩
      have hdue : dueG inn ps = ps.findSome? g := by rw [hg]; rfl
      refine loopK.intro _ _ (I := fun i : Nat => ⟨[some (.ptr n 0 0), none, some (.ptr ⟨L + 1, 0⟩ 0 0), some (.nilS), some (.mp ⟨L + 1, 64⟩), none, none, none, none, none, none, none, none, none, none, none, none, none, none, none, none, none, none, none, none, none, none, none, none, none, none, some (.fs 8 (ps.map Dat.row)), some (.int .i64 ps.length), some (.int .i64 i), none, none, none, none, none, none, none, none, none, none, none, none, none, none, none, none, none, none, none, none, none, none, none, none, none, none, none, none, none, none, none, none, none, none],
        [(⟨L + 1, 0⟩, .rows 37 4 true true [[.int .i64 0, .int .i64 0, .bool false, .str []]]), (⟨L + 1, 64⟩, .map false true (ps.map tK) (ps.map tV))], 10000 * ((ps.length + 10 + i) + 1)⟩) (pre := fun i => i ≤ ps.length ∧ dueG inn ps = (ps.drop i).findSome? g) (μ := fun i => ps.length - i) 0 ⟨by omega, hdue⟩ ?_ ?_
      · refine Sub.trans (Sub.letGo [⟨L + 1, 64⟩]) ?_
        refine Sub.of (fun n hn => hF2 n (by have : n.l = L + 1 := hn; omega)) (by simp only [go_sem, resVal, resVals, resVal1, one, Wk, WkL, WkLL, wkN, wkNL, wkNLL, UpdIn, UpdAll, BW, plainP, plainPL, subT, subH, subK, and_self, true_or, or_true, List.not_mem_nil, List.mem_cons, forall_eq, imp_self, implies_true, Nat.reduceSub, Nat.reduceAdd, Nat.reduceMul, Nat.reduceEqDiff, Nat.reduceLT, Nat.reduceLeDiff, Nat.reduceBEq, Nat.reduceBNe, reduceIte, reduceCtorEq, Int.reduceToNat, String.reduceEq, List.length_map, Int.natCast_zero]) ?_ (by simp [subK, keys, unown, Tx.look, updH, setH]) (by simp only []; omega)
        simp [subH, Tx.look, unown, updH, setH]
      · rintro i ⟨hi, hdi⟩
        by_cases hlt : i < ps.length
        · have f1 : decide ((i : Int) < (ps.length : Int)) = true := dT (by omega)
          have r0 := rowD hlt
          have hd := List.getElem_mem hlt
          have hdr : ps.drop i = ps[i] :: ps.drop (i + 1) := List.drop_eq_getElem_cons hlt
          rw [hdr, List.findSome?_cons] at hdi
          obtain ⟨d, hdd⟩ : ∃ d, d = ps[i] := ⟨_, rfl⟩
          rw [← hdd] at r0 hd hdi
          have hok := hall d hd
          have hs2 := hst d hd
          have hs1 : 0 ≤ d.st := by simp only [Dat.ok, serB, Bool.and_eq_true, decide_eq_true_eq] at hok; omega
          have r1 := getD_eI inn (i := d.st.toNat) (by omega)
          have f0 : decide ((0 : Int) < ((0 : Nat) : Int)) = false := rfl
          have f0 : decide ((0 : Int) < ((0 : Nat) : Int)) = false := rfl
          cases hlo : d.lo with
          | true =>
            have hgd : g d = complete ps d := by rw [hg]; simp [hlo]
            simp only [f1, r0, Dat.row, nB, nB', nS2, nS2', Nat.add_assoc, Nat.reduceAdd, hlo, List.length_map, Nat.add_zero, go_sem, Meths.get, meths, Nat.reduceSub, Nat.reduceAdd, Nat.reduceMul, Nat.reduceEqDiff, Nat.reduceLT, Nat.reduceLeDiff, Nat.reduceBEq, Nat.reduceBNe, reduceIte, reduceCtorEq, Int.reduceToNat, String.reduceEq]
            refine ⟨⟨by omega, by omega⟩, hlt, by kernel_rfl, okDyn_num (fun _ => 0) (by kernel_rfl), ?_⟩
            rw [show ([.int .i64 d.tsn, .int .i64 d.st, .int .i64 d.sq, .int .i64 d.pr, .bool d.fi, .bool d.la, .bool true, .str d.pl] : List PV) = d.row by rw [Dat.row, hlo]]
            refine CallVC.gen (args2 := [.ptr n 0 0, .agg d.row, mapP ps]) ⟨(wk_refl _ _).1, (wk_refl _ _).1, by simp [Wk, mapP], trivial⟩ (complete_ok _ ps d hlen hall hd) ?_
            cases hc : complete ps d with
            | none =>
              rw [hgd, hc] at hdi
              simp only [f0, nB, nB', nS2, nS2', Nat.add_assoc, Nat.reduceAdd, hlo, Dat.row, resC, Msg.zero, Msg.row, mapP, wkNL, wkN, unown, List.length_map, List.map_nil, Nat.add_zero, go_sem, Meths.get, meths, Nat.reduceSub, Nat.reduceAdd, Nat.reduceMul, Nat.reduceEqDiff, Nat.reduceLT, Nat.reduceLeDiff, Nat.reduceBEq, Nat.reduceBNe, reduceIte, reduceCtorEq, Int.reduceToNat, String.reduceEq]
              repeat refine And.intro (by first | omega | exact ⟨by omega, by omega⟩ | exact ⟨by omega, by omega, by omega⟩ | exact ⟨⟨by omega, by omega⟩, by omega, by omega⟩ | exact okDyn_num (fun x => x.i) (by kernel_rfl) | kernel_rfl | exact okDyn_num (fun _ => 0) (by kernel_rfl)) ?_
              refine ⟨i + 1, ⟨by omega, hdi⟩, by omega, ?_⟩
              refine Sub.of (fun n hn => hF2 n (by have : n.l = L + 1 := hn; omega)) (by simp only [go_sem, resVal, resVals, resVal1, one, Wk, WkL, WkLL, wkN, wkNL, wkNLL, UpdIn, UpdAll, BW, plainP, plainPL, subT, subH, subK, and_self, true_or, or_true, List.not_mem_nil, List.mem_cons, forall_eq, imp_self, implies_true, Nat.reduceSub, Nat.reduceAdd, Nat.reduceMul, Nat.reduceEqDiff, Nat.reduceLT, Nat.reduceLeDiff, Nat.reduceBEq, Nat.reduceBNe, reduceIte, reduceCtorEq, Int.reduceToNat, String.reduceEq, Int.natCast_succ]) ?_ (by simp [subK, keys]) (by simp only []; omega)
              simp [subH, Tx.look, nB, nB', nS2, nS2', Nat.add_assoc, Nat.reduceAdd]
            | some r =>
              obtain ⟨m, ns⟩ := r
              rw [hgd, hc] at hdi
              rw [hdi]
              have f2 : decide ((0 : Int) < (ns.length : Int)) = true := dT (by have := complete_ne hc; omega)
              simp only [f2, nB, nB', nS2, nS2', Nat.add_assoc, Nat.reduceAdd, hlo, Dat.row, resC, Msg.zero, Msg.row, mapP, wkNL, wkN, unown, List.length_map, List.map_nil, Nat.add_zero, go_sem, Meths.get, meths, Nat.reduceSub, Nat.reduceAdd, Nat.reduceMul, Nat.reduceEqDiff, Nat.reduceLT, Nat.reduceLeDiff, Nat.reduceBEq, Nat.reduceBNe, reduceIte, reduceCtorEq, Int.reduceToNat, String.reduceEq]
              exact PostF.same (p := True) (.inr rfl) (by simp only [resVal, resVals, resVal1, one, nB, nB', nS2, nS2', Nat.add_assoc, Nat.reduceAdd, Nat.add_zero, go_sem, Meths.get, meths, Nat.reduceSub, Nat.reduceAdd, Nat.reduceMul, Nat.reduceEqDiff, Nat.reduceLT, Nat.reduceLeDiff, Nat.reduceBEq, Nat.reduceBNe, reduceIte, reduceCtorEq, Int.reduceToNat, String.reduceEq]) trivial (by simp [Tx.nf, nfl]) (by simp [UpdAll, keys])
          | false =>
            rcases hiv with ⟨rfl, rfl⟩ | ⟨m0, o0, rfl, rfl, hm0⟩
            · skip
              cases hsq : d.sq != inn.getD d.st.toNat 0 with
              | true =>
                have hgd : g d = none := by rw [hg]; simp only [hlo, hsq]; rfl
                rw [hgd] at hdi
                simp only [f1, r0, r1, Dat.row, hF, o1, o2, hsq, nB, nB', nS2, nS2', Nat.add_assoc, Nat.reduceAdd, hlo, eI, List.length_map, Nat.add_zero, go_sem, Meths.get, meths, Nat.reduceSub, Nat.reduceAdd, Nat.reduceMul, Nat.reduceEqDiff, Nat.reduceLT, Nat.reduceLeDiff, Nat.reduceBEq, Nat.reduceBNe, reduceIte, reduceCtorEq, Int.reduceToNat, String.reduceEq]
                refine ⟨⟨by omega, by omega⟩, hlt, by kernel_rfl, ⟨by omega, by omega⟩, by omega, okDyn_num (fun _ => 0) (by kernel_rfl), ⟨by omega, by omega⟩, i + 1, ⟨by omega, hdi⟩, by omega, ?_⟩
                refine Sub.of (fun n hn => hF2 n (by have : n.l = L + 1 := hn; omega)) (by simp only [go_sem, resVal, resVals, resVal1, one, Wk, WkL, WkLL, wkN, wkNL, wkNLL, UpdIn, UpdAll, BW, plainP, plainPL, subT, subH, subK, and_self, true_or, or_true, List.not_mem_nil, List.mem_cons, forall_eq, imp_self, implies_true, Nat.reduceSub, Nat.reduceAdd, Nat.reduceMul, Nat.reduceEqDiff, Nat.reduceLT, Nat.reduceLeDiff, Nat.reduceBEq, Nat.reduceBNe, reduceIte, reduceCtorEq, Int.reduceToNat, String.reduceEq, Int.natCast_succ]) ?_ (by simp [subK, keys]) (by simp only []; omega)
                simp [subH, Tx.look, nB, nB', nS2, nS2', Nat.add_assoc, Nat.reduceAdd]
              | false =>
                have hgd : g d = complete ps d := by rw [hg]; simp only [hlo, hsq]; rfl
                simp only [f1, r0, r1, Dat.row, hF, o1, o2, hsq, nB, nB', nS2, nS2', Nat.add_assoc, Nat.reduceAdd, hlo, eI, List.length_map, Nat.add_zero, go_sem, Meths.get, meths, Nat.reduceSub, Nat.reduceAdd, Nat.reduceMul, Nat.reduceEqDiff, Nat.reduceLT, Nat.reduceLeDiff, Nat.reduceBEq, Nat.reduceBNe, reduceIte, reduceCtorEq, Int.reduceToNat, String.reduceEq]
                refine ⟨⟨by omega, by omega⟩, hlt, by kernel_rfl, ⟨by omega, by omega⟩, by omega, okDyn_num (fun _ => 0) (by kernel_rfl), ?_⟩
                rw [show ([.int .i64 d.tsn, .int .i64 d.st, .int .i64 d.sq, .int .i64 d.pr, .bool d.fi, .bool d.la, .bool false, .str d.pl] : List PV) = d.row by rw [Dat.row, hlo]]
                refine CallVC.gen (args2 := [.ptr n 0 0, .agg d.row, mapP ps]) ⟨(wk_refl _ _).1, (wk_refl _ _).1, by simp [Wk, mapP], trivial⟩ (complete_ok _ ps d hlen hall hd) ?_
                cases hc : complete ps d with
                | none =>
                  rw [hgd, hc] at hdi
                  simp only [hF, o1, o2, f0, nB, nB', nS2, nS2', Nat.add_assoc, Nat.reduceAdd, hlo, Dat.row, resC, Msg.zero, Msg.row, mapP, wkNL, wkN, unown, List.length_map, List.map_nil, Nat.add_zero, go_sem, Meths.get, meths, Nat.reduceSub, Nat.reduceAdd, Nat.reduceMul, Nat.reduceEqDiff, Nat.reduceLT, Nat.reduceLeDiff, Nat.reduceBEq, Nat.reduceBNe, reduceIte, reduceCtorEq, Int.reduceToNat, String.reduceEq]
                  repeat refine And.intro (by first | omega | exact ⟨by omega, by omega⟩ | exact ⟨by omega, by omega, by omega⟩ | exact ⟨⟨by omega, by omega⟩, by omega, by omega⟩ | exact okDyn_num (fun x => x.i) (by kernel_rfl) | kernel_rfl | exact okDyn_num (fun _ => 0) (by kernel_rfl)) ?_
                  refine ⟨i + 1, ⟨by omega, hdi⟩, by omega, ?_⟩
                  refine Sub.of (fun n hn => hF2 n (by have : n.l = L + 1 := hn; omega)) (by simp only [go_sem, resVal, resVals, resVal1, one, Wk, WkL, WkLL, wkN, wkNL, wkNLL, UpdIn, UpdAll, BW, plainP, plainPL, subT, subH, subK, and_self, true_or, or_true, List.not_mem_nil, List.mem_cons, forall_eq, imp_self, implies_true, Nat.reduceSub, Nat.reduceAdd, Nat.reduceMul, Nat.reduceEqDiff, Nat.reduceLT, Nat.reduceLeDiff, Nat.reduceBEq, Nat.reduceBNe, reduceIte, reduceCtorEq, Int.reduceToNat, String.reduceEq, Int.natCast_succ]) ?_ (by simp [subK, keys]) (by simp only []; omega)
                  simp [subH, Tx.look, nB, nB', nS2, nS2', Nat.add_assoc, Nat.reduceAdd]
                | some r =>
                  obtain ⟨m, ns⟩ := r
                  rw [hgd, hc] at hdi
                  rw [hdi]
                  have f2 : decide ((0 : Int) < (ns.length : Int)) = true := dT (by have := complete_ne hc; omega)
                  simp only [hF, o1, o2, f2, nB, nB', nS2, nS2', Nat.add_assoc, Nat.reduceAdd, hlo, Dat.row, resC, Msg.zero, Msg.row, mapP, wkNL, wkN, unown, List.length_map, List.map_nil, Nat.add_zero, go_sem, Meths.get, meths, Nat.reduceSub, Nat.reduceAdd, Nat.reduceMul, Nat.reduceEqDiff, Nat.reduceLT, Nat.reduceLeDiff, Nat.reduceBEq, Nat.reduceBNe, reduceIte, reduceCtorEq, Int.reduceToNat, String.reduceEq]
                  exact PostF.same (p := True) (.inr rfl) (by simp only [resVal, resVals, resVal1, one, nB, nB', nS2, nS2', Nat.add_assoc, Nat.reduceAdd, Nat.add_zero, go_sem, Meths.get, meths, Nat.reduceSub, Nat.reduceAdd, Nat.reduceMul, Nat.reduceEqDiff, Nat.reduceLT, Nat.reduceLeDiff, Nat.reduceBEq, Nat.reduceBNe, reduceIte, reduceCtorEq, Int.reduceToNat, String.reduceEq]) trivial (by simp [Tx.nf, nfl]) (by simp [UpdAll, keys])
            · have hm0 := (hF1 m0 (by simp)).trans hm0
              have q1 := nm_out' (hrd m0 (by simp))
              have q2 := nm_out (hrd m0 (by simp))
              cases hsq : d.sq != inn.getD d.st.toNat 0 with
              | true =>
                have hgd : g d = none := by rw [hg]; simp only [hlo, hsq]; rfl
                rw [hgd] at hdi
                simp only [f1, r0, r1, Dat.row, hF, o1, o2, hm0, q1, q2, hsq, nB, nB', nS2, nS2', Nat.add_assoc, Nat.reduceAdd, hlo, eI, List.length_map, Nat.add_zero, go_sem, Meths.get, meths, Nat.reduceSub, Nat.reduceAdd, Nat.reduceMul, Nat.reduceEqDiff, Nat.reduceLT, Nat.reduceLeDiff, Nat.reduceBEq, Nat.reduceBNe, reduceIte, reduceCtorEq, Int.reduceToNat, String.reduceEq]
                refine ⟨⟨by omega, by omega⟩, hlt, by kernel_rfl, ⟨by omega, by omega⟩, by omega, okDyn_num (fun _ => 0) (by kernel_rfl), ⟨by omega, by omega⟩, i + 1, ⟨by omega, hdi⟩, by omega, ?_⟩
                refine Sub.of (fun n hn => hF2 n (by have : n.l = L + 1 := hn; omega)) (by simp only [go_sem, resVal, resVals, resVal1, one, Wk, WkL, WkLL, wkN, wkNL, wkNLL, UpdIn, UpdAll, BW, plainP, plainPL, subT, subH, subK, and_self, true_or, or_true, List.not_mem_nil, List.mem_cons, forall_eq, imp_self, implies_true, Nat.reduceSub, Nat.reduceAdd, Nat.reduceMul, Nat.reduceEqDiff, Nat.reduceLT, Nat.reduceLeDiff, Nat.reduceBEq, Nat.reduceBNe, reduceIte, reduceCtorEq, Int.reduceToNat, String.reduceEq, Int.natCast_succ]) ?_ (by simp [subK, keys]) (by simp only []; omega)
                simp [subH, Tx.look, nB, nB', nS2, nS2', Nat.add_assoc, Nat.reduceAdd]
              | false =>
                have hgd : g d = complete ps d := by rw [hg]; simp only [hlo, hsq]; rfl
                simp only [f1, r0, r1, Dat.row, hF, o1, o2, hm0, q1, q2, hsq, nB, nB', nS2, nS2', Nat.add_assoc, Nat.reduceAdd, hlo, eI, List.length_map, Nat.add_zero, go_sem, Meths.get, meths, Nat.reduceSub, Nat.reduceAdd, Nat.reduceMul, Nat.reduceEqDiff, Nat.reduceLT, Nat.reduceLeDiff, Nat.reduceBEq, Nat.reduceBNe, reduceIte, reduceCtorEq, Int.reduceToNat, String.reduceEq]
                refine ⟨⟨by omega, by omega⟩, hlt, by kernel_rfl, ⟨by omega, by omega⟩, by omega, okDyn_num (fun _ => 0) (by kernel_rfl), ?_⟩
                rw [show ([.int .i64 d.tsn, .int .i64 d.st, .int .i64 d.sq, .int .i64 d.pr, .bool d.fi, .bool d.la, .bool false, .str d.pl] : List PV) = d.row by rw [Dat.row, hlo]]
                refine CallVC.gen (args2 := [.ptr n 0 0, .agg d.row, mapP ps]) ⟨(wk_refl _ _).1, (wk_refl _ _).1, by simp [Wk, mapP], trivial⟩ (complete_ok _ ps d hlen hall hd) ?_
                cases hc : complete ps d with
                | none =>
                  rw [hgd, hc] at hdi
                  simp only [hF, o1, o2, hm0, q1, q2, f0, nB, nB', nS2, nS2', Nat.add_assoc, Nat.reduceAdd, hlo, Dat.row, resC, Msg.zero, Msg.row, mapP, wkNL, wkN, unown, List.length_map, List.map_nil, Nat.add_zero, go_sem, Meths.get, meths, Nat.reduceSub, Nat.reduceAdd, Nat.reduceMul, Nat.reduceEqDiff, Nat.reduceLT, Nat.reduceLeDiff, Nat.reduceBEq, Nat.reduceBNe, reduceIte, reduceCtorEq, Int.reduceToNat, String.reduceEq]
                  repeat refine And.intro (by first | omega | exact ⟨by omega, by omega⟩ | exact ⟨by omega, by omega, by omega⟩ | exact ⟨⟨by omega, by omega⟩, by omega, by omega⟩ | exact okDyn_num (fun x => x.i) (by kernel_rfl) | kernel_rfl | exact okDyn_num (fun _ => 0) (by kernel_rfl)) ?_
                  refine ⟨i + 1, ⟨by omega, hdi⟩, by omega, ?_⟩
                  refine Sub.of (fun n hn => hF2 n (by have : n.l = L + 1 := hn; omega)) (by simp only [go_sem, resVal, resVals, resVal1, one, Wk, WkL, WkLL, wkN, wkNL, wkNLL, UpdIn, UpdAll, BW, plainP, plainPL, subT, subH, subK, and_self, true_or, or_true, List.not_mem_nil, List.mem_cons, forall_eq, imp_self, implies_true, Nat.reduceSub, Nat.reduceAdd, Nat.reduceMul, Nat.reduceEqDiff, Nat.reduceLT, Nat.reduceLeDiff, Nat.reduceBEq, Nat.reduceBNe, reduceIte, reduceCtorEq, Int.reduceToNat, String.reduceEq, Int.natCast_succ]) ?_ (by simp [subK, keys]) (by simp only []; omega)
                  simp [subH, Tx.look, nB, nB', nS2, nS2', Nat.add_assoc, Nat.reduceAdd]
                | some r =>
                  obtain ⟨m, ns⟩ := r
                  rw [hgd, hc] at hdi
                  rw [hdi]
                  have f2 : decide ((0 : Int) < (ns.length : Int)) = true := dT (by have := complete_ne hc; omega)
                  simp only [hF, o1, o2, hm0, q1, q2, f2, nB, nB', nS2, nS2', Nat.add_assoc, Nat.reduceAdd, hlo, Dat.row, resC, Msg.zero, Msg.row, mapP, wkNL, wkN, unown, List.length_map, List.map_nil, Nat.add_zero, go_sem, Meths.get, meths, Nat.reduceSub, Nat.reduceAdd, Nat.reduceMul, Nat.reduceEqDiff, Nat.reduceLT, Nat.reduceLeDiff, Nat.reduceBEq, Nat.reduceBNe, reduceIte, reduceCtorEq, Int.reduceToNat, String.reduceEq]
                  exact PostF.same (p := True) (.inr rfl) (by simp only [resVal, resVals, resVal1, one, nB, nB', nS2, nS2', Nat.add_assoc, Nat.reduceAdd, Nat.add_zero, go_sem, Meths.get, meths, Nat.reduceSub, Nat.reduceAdd, Nat.reduceMul, Nat.reduceEqDiff, Nat.reduceLT, Nat.reduceLeDiff, Nat.reduceBEq, Nat.reduceBNe, reduceIte, reduceCtorEq, Int.reduceToNat, String.reduceEq]) trivial (by simp [Tx.nf, nfl]) (by simp [UpdAll, keys])
        · have f1 : decide ((i : Int) < (ps.length : Int)) = false := dF (by omega)
          have e : i = ps.length := by omega
          subst e
          have e4 : dueG inn ps = none := by rw [hdi, List.drop_of_length_le (by omega)]; rfl
          rw [e4]
          simp only [f1, nB, nB', nS2, nS2', Nat.add_assoc, Nat.reduceAdd, resC, Msg.zero, Msg.row, List.map_nil, Nat.add_zero, go_sem, Meths.get, meths, Nat.reduceSub, Nat.reduceAdd, Nat.reduceMul, Nat.reduceEqDiff, Nat.reduceLT, Nat.reduceLeDiff, Nat.reduceBEq, Nat.reduceBNe, reduceIte, reduceCtorEq, Int.reduceToNat, String.reduceEq]
          exact PostF.of (p := True) (v0 := .tup [.agg [.int .i64 0, .int .i64 0, .bool false, .str []], .nilS]) (.inr rfl) (by simp only [resVal, resVals, resVal1, one, Nat.add_zero, go_sem, Meths.get, meths, Nat.reduceSub, Nat.reduceAdd, Nat.reduceMul, Nat.reduceEqDiff, Nat.reduceLT, Nat.reduceLeDiff, Nat.reduceBEq, Nat.reduceBNe, reduceIte, reduceCtorEq, Int.reduceToNat, String.reduceEq]) trivial (by simp [Wk, WkL, Tx.look, List.take_of_length_le, nB, nB']) (by simp [wkN, wkNL]) (by simp [Tx.nf, nfl]) trivial (by simp [UpdAll, keys])
end Go.Proofs.Ytfhhbkehlfipgaa
end

section
set_option linter.unusedSimpArgs false
set_option linter.unusedVariables false
set_option linter.unnecessarySimpa false
set_option linter.unusedSectionVars false
namespace Go.Proofs.Ytfhhbkehlfipgaa
open Go.Tx
set_option maxRecDepth 100000
set_option maxHeartbeats 4000000
set_option linter.unusedSimpArgs false
set_option linter.unusedVariables false
/-! streams.Check -/
theorem mGet_mapF (f : Dat → PV) (ps : List Dat) (t : Int) : mGet (ps.map tK) (ps.map f) t = (getT ps t).map f := by
  induction ps with
  | nil => rfl
  | cons d ps ih =>
    simp only [List.map_cons, tK, mGet, getT, List.find?_cons]
    by_cases h : d.tsn = t
    · subst h; simp
    · rw [if_neg h, show (d.tsn == t) = false by simpa using h]
      exact ih
theorem mPutV_newF (f : Dat → PV) : ∀ (ps : List Dat) (t : Int) (v : PV), getT ps t = none → mPutV (ps.map tK) (ps.map f) t v = ps.map f ++ [v]
  | [], t, v, _ => rfl
  | d :: ps, t, v, h => by
    simp only [getT, List.find?_cons] at h
    split at h
    · cases h
    · rename_i hne
      simp only [List.map_cons, tK, mPutV]
      rw [if_neg (by simpa using hne)]
      have := mPutV_newF f ps t v h
      rw [this]; rfl
theorem mPutK_newF (f : Dat → PV) (ps : List Dat) (t : Int) (h : getT ps t = none) : mPutK (ps.map tK) (ps.map f) t = ps.map tK ++ [.int .i64 t] := by
  unfold mPutK
  rw [mGet_mapF, h]; rfl
def tB (_ : Dat) : PV := .bool true
theorem serB16_at {inn : List Int} (h : inn.all (serB 16) = true) {k : Nat} (hk : k < inn.length) : 0 ≤ inn.getD k 0 ∧ inn.getD k 0 < 65536 := by
  have h16 : (2 : Int) ^ (Int.toNat 16) = 65536 := rfl
  rw [List.all_eq_true] at h
  have := h inn[k] (List.getElem_mem hk)
  simp only [serB, Bool.and_eq_true, decide_eq_true_eq, h16] at this
  simpa [List.getD_eq_getElem?_getD, hk] using this
theorem Dat.ok_bounds {d : Dat} (h : d.ok = true) : 0 ≤ d.tsn ∧ d.tsn < 4294967296 ∧ 0 ≤ d.st ∧ d.st < 65536 ∧ 0 ≤ d.sq ∧ d.sq < 65536 ∧ 1 ≤ d.pl.length ∧ d.pl.length ≤ 1100 := by
  have h32 : (2 : Int) ^ (Int.toNat 32) = 4294967296 := rfl
  have h16 : (2 : Int) ^ (Int.toNat 16) = 65536 := rfl
  simp only [Dat.ok, serB, Bool.and_eq_true, decide_eq_true_eq, h32, h16] at h
  omega
theorem lead16_ok {F : SF} {L nx : Nat} (x y : Int) (hx : 0 ≤ x) (hx2 : x < 65536) (hy : 0 ≤ y) (hy2 : y < 65536) : Con Try.prog 48 [.int .i64 x, .int .i64 y, .int .i64 16] F L nx nx (.int .i64 (lead x y 16)) [] [] :=
  lead_ok x y 16 (by omega) (by omega) hx hx2 hy hy2
theorem partOk_ok {inn : List Int} {d : Dat} (h : partOk inn d = true) : d.ok = true ∧ d.st < inn.length ∧ (d.lo = true ∨ 0 ≤ lead d.sq (inn.getD d.st.toNat 0) 16) := by
  simpa only [partOk, Bool.and_eq_true, decide_eq_true_eq, Bool.or_eq_true, and_assoc] using h
def strV (out inn : List Int) (num seen : Int) (asked : List Int) (ps : List Dat) : PV := .agg [.fs 1 (out.map eI), .fs 1 (inn.map eI), .fs 8 (ps.map Dat.row), .int .i64 num, .int .i64 seen, .fs 1 (asked.map eI)]
theorem check_ok {F : SF} {L nx : Nat} (out inn asked : List Int) (num seen : Int) (hS : Str0 out inn num seen asked) (ps : List Dat) (hP : PsOk inn ps) (hD : dueG inn ps = none) :
    Con Try.prog 31 [strV out inn num seen asked ps] F L nx nx (.int .i64 0) [] [] := by
  obtain ⟨ho, ho2, ho3, hi, hi2, hi3, hn, hsn, ha, ha2⟩ := hS
  have hp80 := hP.len
  refine Con.body (cxOk (L + 1)) rfl rfl (fn := Try.f31) (c := Try.f31.body.getD .skip) (by kernel_rfl) (by rfl) (by kernel_rfl) rfl (by simp) ?_
  intro F3 hF1 hF2
  simp only [Try.f31, cx, strV, Nat.add_zero, go_sem, Meths.get, meths, Nat.reduceSub, Nat.reduceAdd, Nat.reduceMul, Nat.reduceEqDiff, Nat.reduceLT, Nat.reduceLeDiff, Nat.reduceBEq, Nat.reduceBNe, reduceIte, reduceCtorEq, Int.reduceToNat, String.reduceEq]
  refine loopK.intro _ _ (I := fun i : Nat => ⟨[none, some (.ptr ⟨L + 1, 0⟩ 0 0), some (.int .i64 0), none, none, none, none, none, none, none, none, none, none, none, some (.agg [.fs 1 (out.map eI), .fs 1 (inn.map eI)]), some (.int .i64 i), none, none, none, none, none, none, none, none, none, none, none, none, none, none, none, none, none, none, none, none, none, none, none, none, none, none, none, none, none, none, none, none, none, none, none, none, none, none, none, none, none, none, none, none, none, none, none, none, none, none, none, none, none, none, none, none, none, none, none, none, none, none, none, none, none, none, none, none, none, none, none, none, none, none, none, none, none, none, none, none, none, none, none, none, none, none, none, none, none, none, none, none, none, none, none, none, none, none, none, none, none, none, none, none], [(⟨L + 1, 0⟩, .rows 34 6 true true [[.fs 1 (out.map eI), .fs 1 (inn.map eI), .fs 8 (ps.map Dat.row), .int .i64 num, .int .i64 seen, .fs 1 (asked.map eI)]])], 1000 * (i + 1)⟩) (pre := fun i => i ≤ 2) (μ := fun i => 2 - i) 0 (by omega) ?_ ?_
  · exact Sub.of (fun n hn => hF2 n (by have : n.l = L + 1 := hn; omega)) (by simp only [go_sem, resVal, resVals, resVal1, one, Wk, WkL, WkLL, wkN, wkNL, wkNLL, UpdIn, UpdAll, BW, plainP, plainPL, subT, subH, subK, and_self, true_or, or_true, List.not_mem_nil, List.mem_cons, forall_eq, imp_self, implies_true, Nat.reduceSub, Nat.reduceAdd, Nat.reduceMul, Nat.reduceEqDiff, Nat.reduceLT, Nat.reduceLeDiff, Nat.reduceBEq, Nat.reduceBNe, reduceIte, reduceCtorEq, Int.reduceToNat, String.reduceEq, Int.natCast_zero]) (by simp [subH, Tx.look]) ⟨.inl rfl, trivial⟩ (by simp)
  · intro i hi'
    have hc : i = 0 ∨ i = 1 ∨ i = 2 := by omega
    rcases hc with rfl | rfl | rfl
    · have g1 : decide (((0 : Nat) : Int) < 2) = true := rfl
      have g2 : decide ((out.length : Int) < 1) = false := dF (by omega)
      have g3 : decide ((16 : Int) < (out.length : Int)) = false := dF (by omega)
      simp only [g1, g2, g3, List.length_map, Nat.add_zero, go_sem, Meths.get, meths, Nat.reduceSub, Nat.reduceAdd, Nat.reduceMul, Nat.reduceEqDiff, Nat.reduceLT, Nat.reduceLeDiff, Nat.reduceBEq, Nat.reduceBNe, reduceIte, reduceCtorEq, Int.reduceToNat, String.reduceEq]
      refine ⟨⟨by omega, by omega, by omega⟩, CallVC.same (serial_ok 16 out (by omega) (by omega) (by omega)) ?_⟩
      simp only [ho3, Nat.add_zero, go_sem, Meths.get, meths, Nat.reduceSub, Nat.reduceAdd, Nat.reduceMul, Nat.reduceEqDiff, Nat.reduceLT, Nat.reduceLeDiff, Nat.reduceBEq, Nat.reduceBNe, reduceIte, reduceCtorEq, Int.reduceToNat, String.reduceEq]
      refine ⟨⟨by omega, by omega⟩, 1, by omega, by omega, ?_⟩
      exact Sub.of (fun n hn => hF2 n (by have : n.l = L + 1 := hn; omega)) (by simp only [go_sem, resVal, resVals, resVal1, one, Wk, WkL, WkLL, wkN, wkNL, wkNLL, UpdIn, UpdAll, BW, plainP, plainPL, subT, subH, subK, and_self, true_or, or_true, List.not_mem_nil, List.mem_cons, forall_eq, imp_self, implies_true, Nat.reduceSub, Nat.reduceAdd, Nat.reduceMul, Nat.reduceEqDiff, Nat.reduceLT, Nat.reduceLeDiff, Nat.reduceBEq, Nat.reduceBNe, reduceIte, reduceCtorEq, Int.reduceToNat, String.reduceEq]; try trivial) (by simp [subH, Tx.look]) ⟨.inl rfl, trivial⟩ (by simp)
    · have g1 : decide (((1 : Nat) : Int) < 2) = true := rfl
      have g2 : decide ((inn.length : Int) < 1) = false := dF (by omega)
      have g3 : decide ((16 : Int) < (inn.length : Int)) = false := dF (by omega)
      simp only [g1, g2, g3, List.length_map, Nat.add_zero, go_sem, Meths.get, meths, Nat.reduceSub, Nat.reduceAdd, Nat.reduceMul, Nat.reduceEqDiff, Nat.reduceLT, Nat.reduceLeDiff, Nat.reduceBEq, Nat.reduceBNe, reduceIte, reduceCtorEq, Int.reduceToNat, String.reduceEq]
      refine ⟨⟨by omega, by omega, by omega⟩, CallVC.same (serial_ok 16 inn (by omega) (by omega) (by omega)) ?_⟩
      simp only [hi3, Nat.add_zero, go_sem, Meths.get, meths, Nat.reduceSub, Nat.reduceAdd, Nat.reduceMul, Nat.reduceEqDiff, Nat.reduceLT, Nat.reduceLeDiff, Nat.reduceBEq, Nat.reduceBNe, reduceIte, reduceCtorEq, Int.reduceToNat, String.reduceEq]
      refine ⟨⟨by omega, by omega⟩, 2, by omega, by omega, ?_⟩
      exact Sub.of (fun n hn => hF2 n (by have : n.l = L + 1 := hn; omega)) (by simp only [go_sem, resVal, resVals, resVal1, one, Wk, WkL, WkLL, wkN, wkNL, wkNLL, UpdIn, UpdAll, BW, plainP, plainPL, subT, subH, subK, and_self, true_or, or_true, List.not_mem_nil, List.mem_cons, forall_eq, imp_self, implies_true, Nat.reduceSub, Nat.reduceAdd, Nat.reduceMul, Nat.reduceEqDiff, Nat.reduceLT, Nat.reduceLeDiff, Nat.reduceBEq, Nat.reduceBNe, reduceIte, reduceCtorEq, Int.reduceToNat, String.reduceEq]; try trivial) (by simp [subH, Tx.look]) ⟨.inl rfl, trivial⟩ (by simp)
    · have g1 : decide (((2 : Nat) : Int) < 2) = false := rfl
      have g2 : decide ((80 : Int) < (ps.length : Int)) = false := dF (by have := hP.len; omega)
      simp only [g1, g2, List.length_map, Nat.add_zero, go_sem, Meths.get, meths, Nat.reduceSub, Nat.reduceAdd, Nat.reduceMul, Nat.reduceEqDiff, Nat.reduceLT, Nat.reduceLeDiff, Nat.reduceBEq, Nat.reduceBNe, reduceIte, reduceCtorEq, Int.reduceToNat, String.reduceEq]
      refine CallVC.pure (args2 := [_, .fs 1 ([num].map eI)]) ⟨rfl, ?_, trivial⟩ (serial_ok 32 [num] (by omega) (by omega) (by simp)) rfl ?_
      · simp [Wk, eI]
      rcases hsn with hsn | hsn
      · have fsn : (seen != -1) = false := neF hsn
        simp only [hn, fsn, wkNL, wkN, List.length_map, Nat.add_zero, go_sem, Meths.get, meths, Nat.reduceSub, Nat.reduceAdd, Nat.reduceMul, Nat.reduceEqDiff, Nat.reduceLT, Nat.reduceLeDiff, Nat.reduceBEq, Nat.reduceBNe, reduceIte, reduceCtorEq, Int.reduceToNat, String.reduceEq]
        refine CallVC.same (listed_ok asked out.length (by omega)) ?_
        simp only [ha, Nat.add_zero, go_sem, Meths.get, meths, Nat.reduceSub, Nat.reduceAdd, Nat.reduceMul, Nat.reduceEqDiff, Nat.reduceLT, Nat.reduceLeDiff, Nat.reduceBEq, Nat.reduceBNe, reduceIte, reduceCtorEq, Int.reduceToNat, String.reduceEq]
        refine loopK.intro _ _ (I := fun i : Nat => ⟨[none, some (.ptr ⟨L + 1, 0⟩ 0 0), some (.int .i64 0), none, none, some (.mp ⟨L + 1, 3832⟩), none, none, none, none, none, none, none, none, none, none, none, none, none, none, none, none, none, none, none, none, none, none, none, none, none, none, none, none, none, none, none, none, none, none, none, none, none, none, none, none, none, none, none, none, none, none, none, none, none, none, none, none, none, none, none, none, none, none, none, none, some (.fs 8 (ps.map Dat.row)), some (.int .i64 ps.length), some (.int .i64 i), none, none, none, none, none, none, none, none, none, none, none, none, none, none, none, none, none, none, none, none, none, none, none, none, none, none, none, none, none, none, none, none, none, none, none, none, none, none, none, none, none, none, none, none, none, none, none, none, none, none, none], [(⟨L + 1, 0⟩, .rows 34 6 true true [[.fs 1 (out.map eI), .fs 1 (inn.map eI), .fs 8 (ps.map Dat.row), .int .i64 num, .int .i64 seen, .fs 1 (asked.map eI)]]), (⟨L + 1, 3832⟩, .map true true ((ps.take i).map tK) ((ps.take i).map tB))], if i = ps.length then 1000000 else 10000 * (i + 1)⟩) (pre := fun i => i ≤ ps.length) (μ := fun i => ps.length - i) 0 (by omega) ?_ ?_
        · refine Sub.of (fun n hn => hF2 n (by have : n.l = L + 1 := hn; omega)) (by simp only [go_sem, resVal, resVals, resVal1, one, Wk, WkL, WkLL, wkN, wkNL, wkNLL, UpdIn, UpdAll, BW, plainP, plainPL, subT, subH, subK, and_self, true_or, or_true, List.not_mem_nil, List.mem_cons, forall_eq, imp_self, implies_true, Nat.reduceSub, Nat.reduceAdd, Nat.reduceMul, Nat.reduceEqDiff, Nat.reduceLT, Nat.reduceLeDiff, Nat.reduceBEq, Nat.reduceBNe, reduceIte, reduceCtorEq, Int.reduceToNat, String.reduceEq, List.length_map, Int.natCast_zero]) ?_ (by simp [subK, keys]) (by simp only []; split <;> omega)
          simp [subH, Tx.look]
        · intro i hi
          by_cases hlt : i < ps.length
          · have hiN : (i = ps.length) = False := by apply eq_false; omega
            have f1 : decide ((i : Int) < (ps.length : Int)) = true := dT (by omega)
            have r0 := rowD hlt
            have hd := hP.all _ (List.getElem_mem hlt)
            have ht := getT_take hP.nodup hlt
            have k0 := mGet_mapF tB (ps.take i) (ps[i]).tsn
            have k1 := mPutK_newF tB (ps.take i) _ ht
            have k2 := mPutV_newF tB (ps.take i) (ps[i]).tsn (.bool true) ht
            rw [ht] at k0
            have e1 : (ps.take (i + 1)).map tK = (ps.take i).map tK ++ [.int .i64 (ps[i]).tsn] := by rw [List.take_succ_eq_append_getElem hlt, List.map_append]; rfl
            have e2 : (ps.take (i + 1)).map tB = (ps.take i).map tB ++ [.bool true] := by rw [List.take_succ_eq_append_getElem hlt, List.map_append]; rfl
            rw [← e1] at k1
            rw [← e2] at k2
            have hik : intKeys ((ps.take i).map tK) := by intro k hk; obtain ⟨y, _, rfl⟩ := List.mem_map.1 hk; exact ⟨_, rfl⟩
            obtain ⟨d, hdd⟩ : ∃ d, d = ps[i] := ⟨_, rfl⟩
            rw [← hdd] at hd r0 k0 k1 k2
            simp only [partOk, Bool.and_eq_true, decide_eq_true_eq, Bool.or_eq_true] at hd
            obtain ⟨⟨hok, hst⟩, hle⟩ := hd
            obtain ⟨w1, w2, w3, w4, w5, w6, w7, w8⟩ := Dat.ok_bounds hok
            have f2 : decide ((inn.length : Int) ≤ d.st) = false := dF (by omega)
            have r1 := getD_eI inn (i := d.st.toNat) (by omega)
            obtain ⟨v1, v2⟩ := serB16_at hi3 (k := d.st.toNat) (by omega)
            simp only [f1, r0, Dat.row, nB, nB', nS2, nS2', Nat.add_assoc, Nat.reduceAdd, hiN, List.length_map, Nat.add_zero, go_sem, Meths.get, meths, Nat.reduceSub, Nat.reduceAdd, Nat.reduceMul, Nat.reduceEqDiff, Nat.reduceLT, Nat.reduceLeDiff, Nat.reduceBEq, Nat.reduceBNe, reduceIte, reduceCtorEq, Int.reduceToNat, String.reduceEq]
            repeat refine And.intro (by first | omega | exact ⟨by omega, by omega⟩ | exact ⟨by omega, by omega, by omega⟩ | exact ⟨⟨by omega, by omega⟩, by omega, by omega⟩ | exact okDyn_num (fun x => x.i) (by kernel_rfl) | kernel_rfl | exact okDyn_num (fun _ => 0) (by kernel_rfl)) ?_
            rw [show ([.int .i64 d.tsn, .int .i64 d.st, .int .i64 d.sq, .int .i64 d.pr, .bool d.fi, .bool d.la, .bool d.lo, .str d.pl] : List PV) = d.row from rfl]
            refine CallVC.same (piece_ok d) ?_
            cases hlo : d.lo with
            | true =>
              simp only [hok, f2, k0, k1, k2, hlo, Option.map_none, Option.getD_none, Dat.row, nB, nB', nS2, nS2', Nat.add_assoc, Nat.reduceAdd, hiN, List.length_map, Nat.add_zero, go_sem, Meths.get, meths, Nat.reduceSub, Nat.reduceAdd, Nat.reduceMul, Nat.reduceEqDiff, Nat.reduceLT, Nat.reduceLeDiff, Nat.reduceBEq, Nat.reduceBNe, reduceIte, reduceCtorEq, Int.reduceToNat, String.reduceEq]
              repeat refine And.intro (by first | omega | exact ⟨by omega, by omega⟩ | exact ⟨by omega, by omega, by omega⟩ | exact ⟨⟨by omega, by omega⟩, by omega, by omega⟩ | exact okDyn_num (fun x => x.i) (by kernel_rfl) | kernel_rfl | exact okDyn_num (fun _ => 0) (by kernel_rfl)) ?_
              refine ⟨i + 1, by omega, by omega, ?_⟩
              refine Sub.of (fun n hn => hF2 n (by have : n.l = L + 1 := hn; omega)) (by simp only [go_sem, resVal, resVals, resVal1, one, Wk, WkL, WkLL, wkN, wkNL, wkNLL, UpdIn, UpdAll, BW, plainP, plainPL, subT, subH, subK, and_self, true_or, or_true, List.not_mem_nil, List.mem_cons, forall_eq, imp_self, implies_true, Nat.reduceSub, Nat.reduceAdd, Nat.reduceMul, Nat.reduceEqDiff, Nat.reduceLT, Nat.reduceLeDiff, Nat.reduceBEq, Nat.reduceBNe, reduceIte, reduceCtorEq, Int.reduceToNat, String.reduceEq, Int.natCast_succ]) ?_ (by simp [subK, keys]) (by simp only []; split <;> omega)
              simp [subH, Tx.look, nB, nB', nS2, nS2', Nat.add_assoc, Nat.reduceAdd]
            | false =>
              have f3 : decide (lead d.sq (inn.getD d.st.toNat 0) 16 < 0) = false := dF (by have := hle.resolve_left (by rw [hlo]; simp); omega)
              simp only [hok, f2, r1, eI, k0, k1, k2, hlo, Option.map_none, Option.getD_none, Dat.row, nB, nB', nS2, nS2', Nat.add_assoc, Nat.reduceAdd, hiN, List.length_map, Nat.add_zero, go_sem, Meths.get, meths, Nat.reduceSub, Nat.reduceAdd, Nat.reduceMul, Nat.reduceEqDiff, Nat.reduceLT, Nat.reduceLeDiff, Nat.reduceBEq, Nat.reduceBNe, reduceIte, reduceCtorEq, Int.reduceToNat, String.reduceEq]
              repeat refine And.intro (by first | omega | exact ⟨by omega, by omega⟩ | exact ⟨by omega, by omega, by omega⟩ | exact ⟨⟨by omega, by omega⟩, by omega, by omega⟩ | exact okDyn_num (fun x => x.i) (by kernel_rfl) | kernel_rfl | exact okDyn_num (fun _ => 0) (by kernel_rfl)) ?_
              refine CallVC.same (lead16_ok d.sq (inn.getD d.st.toNat 0) w5 w6 v1 v2) ?_
              simp only [f3, k0, k1, k2, hlo, Option.map_none, Option.getD_none, Dat.row, nB, nB', nS2, nS2', Nat.add_assoc, Nat.reduceAdd, hiN, List.length_map, Nat.add_zero, go_sem, Meths.get, meths, Nat.reduceSub, Nat.reduceAdd, Nat.reduceMul, Nat.reduceEqDiff, Nat.reduceLT, Nat.reduceLeDiff, Nat.reduceBEq, Nat.reduceBNe, reduceIte, reduceCtorEq, Int.reduceToNat, String.reduceEq]
              repeat refine And.intro (by first | omega | exact ⟨by omega, by omega⟩ | exact ⟨by omega, by omega, by omega⟩ | exact ⟨⟨by omega, by omega⟩, by omega, by omega⟩ | exact okDyn_num (fun x => x.i) (by kernel_rfl) | kernel_rfl | exact okDyn_num (fun _ => 0) (by kernel_rfl)) ?_
              refine ⟨i + 1, by omega, by omega, ?_⟩
              refine Sub.of (fun n hn => hF2 n (by have : n.l = L + 1 := hn; omega)) (by simp only [go_sem, resVal, resVals, resVal1, one, Wk, WkL, WkLL, wkN, wkNL, wkNLL, UpdIn, UpdAll, BW, plainP, plainPL, subT, subH, subK, and_self, true_or, or_true, List.not_mem_nil, List.mem_cons, forall_eq, imp_self, implies_true, Nat.reduceSub, Nat.reduceAdd, Nat.reduceMul, Nat.reduceEqDiff, Nat.reduceLT, Nat.reduceLeDiff, Nat.reduceBEq, Nat.reduceBNe, reduceIte, reduceCtorEq, Int.reduceToNat, String.reduceEq, Int.natCast_succ]) ?_ (by simp [subK, keys]) (by simp only []; split <;> omega)
              simp [subH, Tx.look, nB, nB', nS2, nS2', Nat.add_assoc, Nat.reduceAdd]
          · have f1 : decide ((i : Int) < (ps.length : Int)) = false := dF (by omega)
            have e : i = ps.length := by omega
            subst e
            simp only [f1, nB, nB', nS2, nS2', Nat.add_assoc, Nat.reduceAdd, Nat.add_zero, go_sem, Meths.get, meths, Nat.reduceSub, Nat.reduceAdd, Nat.reduceMul, Nat.reduceEqDiff, Nat.reduceLT, Nat.reduceLeDiff, Nat.reduceBEq, Nat.reduceBNe, reduceIte, reduceCtorEq, Int.reduceToNat, String.reduceEq]
            have e3 : ps.take ps.length = ps := List.take_of_length_le (by omega)
            simp only [e3, nB, nB', nS2, nS2', Nat.add_assoc, Nat.reduceAdd, Nat.add_zero, go_sem, Meths.get, meths, Nat.reduceSub, Nat.reduceAdd, Nat.reduceMul, Nat.reduceEqDiff, Nat.reduceLT, Nat.reduceLeDiff, Nat.reduceBEq, Nat.reduceBNe, reduceIte, reduceCtorEq, Int.reduceToNat, String.reduceEq]
            refine CallVC.same (due_ok ⟨L + 1, 1000096⟩ (Nat.le_refl _) true true (.fs 1 (out.map eI)) (.int .i64 num) (.int .i64 seen) (.fs 1 (asked.map eI)) (.fs 1 (inn.map eI)) inn [] (.inl ⟨rfl, rfl⟩) (by simp) ps hP.len (fun x hx => (partOk_ok (hP.all x hx)).1) (fun x hx => (partOk_ok (hP.all x hx)).2.1) hP.nodup (by omega) (by simp only [nB, nB', nS2, nS2', Nat.add_assoc, Nat.reduceAdd, nm_eq, go_sem, Meths.get, meths, Nat.reduceSub, Nat.reduceAdd, Nat.reduceMul, Nat.reduceEqDiff, Nat.reduceLT, Nat.reduceLeDiff, Nat.reduceBEq, Nat.reduceBNe, reduceIte, reduceCtorEq, Int.reduceToNat, String.reduceEq])) ?_
            rw [hD]
            have g5 : decide ((0 : Int) < ((0 : Nat) : Int)) = false := rfl
            have g6 : decide ((0 : Int) < 0) = false := rfl
            simp only [resC, Msg.zero, Msg.row, List.map_nil, g5, g6, nB, nB', nS2, nS2', Nat.add_assoc, Nat.reduceAdd, Nat.add_zero, go_sem, Meths.get, meths, Nat.reduceSub, Nat.reduceAdd, Nat.reduceMul, Nat.reduceEqDiff, Nat.reduceLT, Nat.reduceLeDiff, Nat.reduceBEq, Nat.reduceBNe, reduceIte, reduceCtorEq, Int.reduceToNat, String.reduceEq]
            exact .int (.inr rfl) rfl rfl (by simp [UpdAll, keys])
      · have fsn : (seen != -1) = true := neT (by simp [serB] at hsn; omega)
        simp only [hn, fsn, wkNL, wkN, List.length_map, Nat.add_zero, go_sem, Meths.get, meths, Nat.reduceSub, Nat.reduceAdd, Nat.reduceMul, Nat.reduceEqDiff, Nat.reduceLT, Nat.reduceLeDiff, Nat.reduceBEq, Nat.reduceBNe, reduceIte, reduceCtorEq, Int.reduceToNat, String.reduceEq]
        refine CallVC.pure (args2 := [_, .fs 1 ([seen].map eI)]) ⟨rfl, by simp [Wk, eI], trivial⟩ (serial_ok 32 [seen] (by omega) (by omega) (by simp)) rfl ?_
        simp only [hsn, wkNL, wkN, List.length_map, Nat.add_zero, go_sem, Meths.get, meths, Nat.reduceSub, Nat.reduceAdd, Nat.reduceMul, Nat.reduceEqDiff, Nat.reduceLT, Nat.reduceLeDiff, Nat.reduceBEq, Nat.reduceBNe, reduceIte, reduceCtorEq, Int.reduceToNat, String.reduceEq]
        refine CallVC.same (listed_ok asked out.length (by omega)) ?_
        simp only [ha, Nat.add_zero, go_sem, Meths.get, meths, Nat.reduceSub, Nat.reduceAdd, Nat.reduceMul, Nat.reduceEqDiff, Nat.reduceLT, Nat.reduceLeDiff, Nat.reduceBEq, Nat.reduceBNe, reduceIte, reduceCtorEq, Int.reduceToNat, String.reduceEq]
        refine loopK.intro _ _ (I := fun i : Nat => ⟨[none, some (.ptr ⟨L + 1, 0⟩ 0 0), some (.int .i64 0), none, none, some (.mp ⟨L + 1, 3960⟩), none, none, none, none, none, none, none, none, none, none, none, none, none, none, none, none, none, none, none, none, none, none, none, none, none, none, none, none, none, none, none, none, none, none, none, none, none, none, none, none, none, none, none, none, none, none, none, none, none, none, none, none, none, none, none, none, none, none, none, none, some (.fs 8 (ps.map Dat.row)), some (.int .i64 ps.length), some (.int .i64 i), none, none, none, none, none, none, none, none, none, none, none, none, none, none, none, none, none, none, none, none, none, none, none, none, none, none, none, none, none, none, none, none, none, none, none, none, none, none, none, none, none, none, none, none, none, none, none, none, none, none, none], [(⟨L + 1, 0⟩, .rows 34 6 true true [[.fs 1 (out.map eI), .fs 1 (inn.map eI), .fs 8 (ps.map Dat.row), .int .i64 num, .int .i64 seen, .fs 1 (asked.map eI)]]), (⟨L + 1, 3960⟩, .map true true ((ps.take i).map tK) ((ps.take i).map tB))], if i = ps.length then 1000000 else 10000 * (i + 1)⟩) (pre := fun i => i ≤ ps.length) (μ := fun i => ps.length - i) 0 (by omega) ?_ ?_
        · refine Sub.of (fun n hn => hF2 n (by have : n.l = L + 1 := hn; omega)) (by simp only [go_sem, resVal, resVals, resVal1, one, Wk, WkL, WkLL, wkN, wkNL, wkNLL, UpdIn, UpdAll, BW, plainP, plainPL, subT, subH, subK, and_self, true_or, or_true, List.not_mem_nil, List.mem_cons, forall_eq, imp_self, implies_true, Nat.reduceSub, Nat.reduceAdd, Nat.reduceMul, Nat.reduceEqDiff, Nat.reduceLT, Nat.reduceLeDiff, Nat.reduceBEq, Nat.reduceBNe, reduceIte, reduceCtorEq, Int.reduceToNat, String.reduceEq, List.length_map, Int.natCast_zero]) ?_ (by simp [subK, keys]) (by simp only []; split <;> omega)
          simp [subH, Tx.look]
        · intro i hi
          by_cases hlt : i < ps.length
          · have hiN : (i = ps.length) = False := by apply eq_false; omega
            have f1 : decide ((i : Int) < (ps.length : Int)) = true := dT (by omega)
            have r0 := rowD hlt
            have hd := hP.all _ (List.getElem_mem hlt)
            have ht := getT_take hP.nodup hlt
            have k0 := mGet_mapF tB (ps.take i) (ps[i]).tsn
            have k1 := mPutK_newF tB (ps.take i) _ ht
            have k2 := mPutV_newF tB (ps.take i) (ps[i]).tsn (.bool true) ht
            rw [ht] at k0
            have e1 : (ps.take (i + 1)).map tK = (ps.take i).map tK ++ [.int .i64 (ps[i]).tsn] := by rw [List.take_succ_eq_append_getElem hlt, List.map_append]; rfl
            have e2 : (ps.take (i + 1)).map tB = (ps.take i).map tB ++ [.bool true] := by rw [List.take_succ_eq_append_getElem hlt, List.map_append]; rfl
            rw [← e1] at k1
            rw [← e2] at k2
            have hik : intKeys ((ps.take i).map tK) := by intro k hk; obtain ⟨y, _, rfl⟩ := List.mem_map.1 hk; exact ⟨_, rfl⟩
            obtain ⟨d, hdd⟩ : ∃ d, d = ps[i] := ⟨_, rfl⟩
            rw [← hdd] at hd r0 k0 k1 k2
            simp only [partOk, Bool.and_eq_true, decide_eq_true_eq, Bool.or_eq_true] at hd
            obtain ⟨⟨hok, hst⟩, hle⟩ := hd
            obtain ⟨w1, w2, w3, w4, w5, w6, w7, w8⟩ := Dat.ok_bounds hok
            have f2 : decide ((inn.length : Int) ≤ d.st) = false := dF (by omega)
            have r1 := getD_eI inn (i := d.st.toNat) (by omega)
            obtain ⟨v1, v2⟩ := serB16_at hi3 (k := d.st.toNat) (by omega)
            simp only [f1, r0, Dat.row, nB, nB', nS2, nS2', Nat.add_assoc, Nat.reduceAdd, hiN, List.length_map, Nat.add_zero, go_sem, Meths.get, meths, Nat.reduceSub, Nat.reduceAdd, Nat.reduceMul, Nat.reduceEqDiff, Nat.reduceLT, Nat.reduceLeDiff, Nat.reduceBEq, Nat.reduceBNe, reduceIte, reduceCtorEq, Int.reduceToNat, String.reduceEq]
            repeat refine And.intro (by first | omega | exact ⟨by omega, by omega⟩ | exact ⟨by omega, by omega, by omega⟩ | exact ⟨⟨by omega, by omega⟩, by omega, by omega⟩ | exact okDyn_num (fun x => x.i) (by kernel_rfl) | kernel_rfl | exact okDyn_num (fun _ => 0) (by kernel_rfl)) ?_
            rw [show ([.int .i64 d.tsn, .int .i64 d.st, .int .i64 d.sq, .int .i64 d.pr, .bool d.fi, .bool d.la, .bool d.lo, .str d.pl] : List PV) = d.row from rfl]
            refine CallVC.same (piece_ok d) ?_
            cases hlo : d.lo with
            | true =>
              simp only [hok, f2, k0, k1, k2, hlo, Option.map_none, Option.getD_none, Dat.row, nB, nB', nS2, nS2', Nat.add_assoc, Nat.reduceAdd, hiN, List.length_map, Nat.add_zero, go_sem, Meths.get, meths, Nat.reduceSub, Nat.reduceAdd, Nat.reduceMul, Nat.reduceEqDiff, Nat.reduceLT, Nat.reduceLeDiff, Nat.reduceBEq, Nat.reduceBNe, reduceIte, reduceCtorEq, Int.reduceToNat, String.reduceEq]
              repeat refine And.intro (by first | omega | exact ⟨by omega, by omega⟩ | exact ⟨by omega, by omega, by omega⟩ | exact ⟨⟨by omega, by omega⟩, by omega, by omega⟩ | exact okDyn_num (fun x => x.i) (by kernel_rfl) | kernel_rfl | exact okDyn_num (fun _ => 0) (by kernel_rfl)) ?_
              refine ⟨i + 1, by omega, by omega, ?_⟩
              refine Sub.of (fun n hn => hF2 n (by have : n.l = L + 1 := hn; omega)) (by simp only [go_sem, resVal, resVals, resVal1, one, Wk, WkL, WkLL, wkN, wkNL, wkNLL, UpdIn, UpdAll, BW, plainP, plainPL, subT, subH, subK, and_self, true_or, or_true, List.not_mem_nil, List.mem_cons, forall_eq, imp_self, implies_true, Nat.reduceSub, Nat.reduceAdd, Nat.reduceMul, Nat.reduceEqDiff, Nat.reduceLT, Nat.reduceLeDiff, Nat.reduceBEq, Nat.reduceBNe, reduceIte, reduceCtorEq, Int.reduceToNat, String.reduceEq, Int.natCast_succ]) ?_ (by simp [subK, keys]) (by simp only []; split <;> omega)
              simp [subH, Tx.look, nB, nB', nS2, nS2', Nat.add_assoc, Nat.reduceAdd]
            | false =>
              have f3 : decide (lead d.sq (inn.getD d.st.toNat 0) 16 < 0) = false := dF (by have := hle.resolve_left (by rw [hlo]; simp); omega)
              simp only [hok, f2, r1, eI, k0, k1, k2, hlo, Option.map_none, Option.getD_none, Dat.row, nB, nB', nS2, nS2', Nat.add_assoc, Nat.reduceAdd, hiN, List.length_map, Nat.add_zero, go_sem, Meths.get, meths, Nat.reduceSub, Nat.reduceAdd, Nat.reduceMul, Nat.reduceEqDiff, Nat.reduceLT, Nat.reduceLeDiff, Nat.reduceBEq, Nat.reduceBNe, reduceIte, reduceCtorEq, Int.reduceToNat, String.reduceEq]
              repeat refine And.intro (by first | omega | exact ⟨by omega, by omega⟩ | exact ⟨by omega, by omega, by omega⟩ | exact ⟨⟨by omega, by omega⟩, by omega, by omega⟩ | exact okDyn_num (fun x => x.i) (by kernel_rfl) | kernel_rfl | exact okDyn_num (fun _ => 0) (by kernel_rfl)) ?_
              refine CallVC.same (lead16_ok d.sq (inn.getD d.st.toNat 0) w5 w6 v1 v2) ?_
              simp only [f3, k0, k1, k2, hlo, Option.map_none, Option.getD_none, Dat.row, nB, nB', nS2, nS2', Nat.add_assoc, Nat.reduceAdd, hiN, List.length_map, Nat.add_zero, go_sem, Meths.get, meths, Nat.reduceSub, Nat.reduceAdd, Nat.reduceMul, Nat.reduceEqDiff, Nat.reduceLT, Nat.reduceLeDiff, Nat.reduceBEq, Nat.reduceBNe, reduceIte, reduceCtorEq, Int.reduceToNat, String.reduceEq]
              repeat refine And.intro (by first | omega | exact ⟨by omega, by omega⟩ | exact ⟨by omega, by omega, by omega⟩ | exact ⟨⟨by omega, by omega⟩, by omega, by omega⟩ | exact okDyn_num (fun x => x.i) (by kernel_rfl) | kernel_rfl | exact okDyn_num (fun _ => 0) (by kernel_rfl)) ?_
              refine ⟨i + 1, by omega, by omega, ?_⟩
              refine Sub.of (fun n hn => hF2 n (by have : n.l = L + 1 := hn; omega)) (by simp only [go_sem, resVal, resVals, resVal1, one, Wk, WkL, WkLL, wkN, wkNL, wkNLL, UpdIn, UpdAll, BW, plainP, plainPL, subT, subH, subK, and_self, true_or, or_true, List.not_mem_nil, List.mem_cons, forall_eq, imp_self, implies_true, Nat.reduceSub, Nat.reduceAdd, Nat.reduceMul, Nat.reduceEqDiff, Nat.reduceLT, Nat.reduceLeDiff, Nat.reduceBEq, Nat.reduceBNe, reduceIte, reduceCtorEq, Int.reduceToNat, String.reduceEq, Int.natCast_succ]) ?_ (by simp [subK, keys]) (by simp only []; split <;> omega)
              simp [subH, Tx.look, nB, nB', nS2, nS2', Nat.add_assoc, Nat.reduceAdd]
          · have f1 : decide ((i : Int) < (ps.length : Int)) = false := dF (by omega)
            have e : i = ps.length := by omega
            subst e
            simp only [f1, nB, nB', nS2, nS2', Nat.add_assoc, Nat.reduceAdd, Nat.add_zero, go_sem, Meths.get, meths, Nat.reduceSub, Nat.reduceAdd, Nat.reduceMul, Nat.reduceEqDiff, Nat.reduceLT, Nat.reduceLeDiff, Nat.reduceBEq, Nat.reduceBNe, reduceIte, reduceCtorEq, Int.reduceToNat, String.reduceEq]
            have e3 : ps.take ps.length = ps := List.take_of_length_le (by omega)
            simp only [e3, nB, nB', nS2, nS2', Nat.add_assoc, Nat.reduceAdd, Nat.add_zero, go_sem, Meths.get, meths, Nat.reduceSub, Nat.reduceAdd, Nat.reduceMul, Nat.reduceEqDiff, Nat.reduceLT, Nat.reduceLeDiff, Nat.reduceBEq, Nat.reduceBNe, reduceIte, reduceCtorEq, Int.reduceToNat, String.reduceEq]
            refine CallVC.same (due_ok ⟨L + 1, 1000096⟩ (Nat.le_refl _) true true (.fs 1 (out.map eI)) (.int .i64 num) (.int .i64 seen) (.fs 1 (asked.map eI)) (.fs 1 (inn.map eI)) inn [] (.inl ⟨rfl, rfl⟩) (by simp) ps hP.len (fun x hx => (partOk_ok (hP.all x hx)).1) (fun x hx => (partOk_ok (hP.all x hx)).2.1) hP.nodup (by omega) (by simp only [nB, nB', nS2, nS2', Nat.add_assoc, Nat.reduceAdd, nm_eq, go_sem, Meths.get, meths, Nat.reduceSub, Nat.reduceAdd, Nat.reduceMul, Nat.reduceEqDiff, Nat.reduceLT, Nat.reduceLeDiff, Nat.reduceBEq, Nat.reduceBNe, reduceIte, reduceCtorEq, Int.reduceToNat, String.reduceEq])) ?_
            rw [hD]
            have g5 : decide ((0 : Int) < ((0 : Nat) : Int)) = false := rfl
            have g6 : decide ((0 : Int) < 0) = false := rfl
            simp only [resC, Msg.zero, Msg.row, List.map_nil, g5, g6, nB, nB', nS2, nS2', Nat.add_assoc, Nat.reduceAdd, Nat.add_zero, go_sem, Meths.get, meths, Nat.reduceSub, Nat.reduceAdd, Nat.reduceMul, Nat.reduceEqDiff, Nat.reduceLT, Nat.reduceLeDiff, Nat.reduceBEq, Nat.reduceBNe, reduceIte, reduceCtorEq, Int.reduceToNat, String.reduceEq]
            exact .int (.inr rfl) rfl rfl (by simp [UpdAll, keys])
end Go.Proofs.Ytfhhbkehlfipgaa
end
