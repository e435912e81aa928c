/- Lemmas for the walk: C22. -/
import Derived.Test.YtfhhbkehlfipgaaCxA
import Derived.Test.YtfhhbkehlfipgaaTxF
section
set_option linter.unusedSimpArgs false
set_option linter.unusedVariables false
set_option linter.unnecessarySimpa false
set_option linter.unusedSectionVars false
namespace Go.Proofs.Ytfhhbkehlfipgaa
open Go.Tx
set_option maxRecDepth 100000
set_option maxHeartbeats 16000000
set_option linter.unusedSimpArgs false
set_option linter.unusedVariables false
/-! state.complete -/
theorem nS2 {x c : Nat} (h : 0 < c) : (x + c = x) = False := by apply eq_false; omega
theorem nS2' {x c : Nat} (h : 0 < c) : (x = x + c) = False := by apply eq_false; omega
theorem behind32_ok {F : SF} {L nx : Nat} (x : Int) (hx : 0 ≤ x) (hx2 : x ≤ 4294967295) : Con Try.prog 44 [.int .i64 x, .int .i64 32] F L nx nx (.int .i64 ((x + 1) % 4294967296)) [] [] := by
  have h := behind_ok (F := F) (L := L) (nx := nx) x 32 hx hx2 (by omega) (by omega)
  rwa [show (2 : Int) ^ (Int.toNat 32) = 4294967296 from rfl] at h
def tK (d : Dat) : PV := .int .i64 d.tsn
def tV (d : Dat) : PV := .agg d.row
def mapP (ps : List Dat) : PV := .fm (ps.map tK) (ps.map tV)
def resC : Option (Msg × List Int) → PV
  | some (m, ns) => .tup [.agg m.row, .fs 1 (ns.map eI)]
  | none => .tup [.agg Msg.zero.row, .fs 1 []]
theorem mGet_map (ps : List Dat) (t : Int) : mGet (ps.map tK) (ps.map tV) t = (getT ps t).map tV := by
  induction ps with
  | nil => rfl
  | cons d ps ih =>
    simp only [List.map_cons, tK, mGet, getT, List.find?_cons]
    by_cases h : d.tsn = t
    · subst h; simp
    · rw [if_neg h, show (d.tsn == t) = false by simpa using h]
      exact ih
theorem complete_ok {F : SF} {L nx : Nat} (sp : PV) (ps : List Dat) (d : Dat) (hlen : ps.length ≤ 80) (hall : ∀ x ∈ ps, x.ok = true) (hd : d ∈ ps) :
    Con Try.prog 92 [sp, .agg d.row, mapP ps] F L nx nx (resC (complete ps d)) [] [] := by
  refine Con.body (cxOk (L + 1)) rfl rfl (fn := Try.f92) (c := Try.f92.body.getD .skip) (by kernel_rfl) (by rfl) (by kernel_rfl) rfl (by simp) ?_
  intro F3 hF1 hF2
  have hn : ∀ (d2 : Dat), d2 ∈ ps → 0 ≤ d2.tsn ∧ d2.tsn < 4294967296 ∧ d2.pl.length ≤ 1100 := by
    intro d2 h2
    have := hall d2 h2
    have h32 : (2 : Int) ^ (Int.toNat 32) = 4294967296 := rfl
    simp only [Dat.ok, serB, Bool.and_eq_true, decide_eq_true_eq, h32] at this
    omega
  cases hfi : d.fi with
  | false =>
    have e : complete ps d = none := by simp [complete, hfi]
    rw [e]
    simp only [Try.f92, cx, Dat.row, mapP, hfi, resC, Msg.zero, Msg.row, Nat.add_zero, go_sem, Meths.get, meths, Nat.reduceSub, Nat.reduceAdd, Nat.reduceMul, Nat.reduceEqDiff, Nat.reduceLT, Nat.reduceLeDiff, Nat.reduceBEq, Nat.reduceBNe, reduceIte, reduceCtorEq, Int.reduceToNat, String.reduceEq]
    exact PostF.of (p := True) (v0 := .tup [.agg [.int .i64 0, .int .i64 0, .bool false, .str []], .nilS]) (.inr rfl) (by simp only [resVal, resVals, resVal1, one, Nat.add_zero, go_sem, Meths.get, meths, Nat.reduceSub, Nat.reduceAdd, Nat.reduceMul, Nat.reduceEqDiff, Nat.reduceLT, Nat.reduceLeDiff, Nat.reduceBEq, Nat.reduceBNe, reduceIte, reduceCtorEq, Int.reduceToNat, String.reduceEq]) trivial (by simp [Wk, WkL, Tx.look, List.take_of_length_le, nB, nB']) (by simp [wkN, wkNL]) (by simp [Tx.nf, nfl]) trivial (by simp [UpdAll, keys])
  | true =>
    simp only [Try.f92, cx, Dat.row, mapP, hfi, Nat.add_zero, go_sem, Meths.get, meths, Nat.reduceSub, Nat.reduceAdd, Nat.reduceMul, Nat.reduceEqDiff, Nat.reduceLT, Nat.reduceLeDiff, Nat.reduceBEq, Nat.reduceBNe, reduceIte, reduceCtorEq, Int.reduceToNat, String.reduceEq]
    refine loopK.intro _ _ (I := fun z : Nat × Nat × Nat × Option Dat × List UInt8 × List Int => ⟨[none, none, some (.fm (ps.map tK) (ps.map tV)), none, some (.ptr ⟨L + 1, 0⟩ 0 0), none, some (.ptr ⟨L + 1, 32⟩ 0 0), some (.nilS), some (.ptr ⟨L + 1, 416⟩ 0 0), some (.sl ⟨L + 1, z.2.1⟩ 0 z.2.2.2.2.2.length), some (.ptr ⟨L + 1, z.2.2.1⟩ 0 0), some (.bool z.2.2.2.1.isSome), none, none, none, none, none, none, none, none, none, none, none, none, none, none, none, none, none, none, none, none, none, none, none, none, none, none, none, none, none, none, none, none, none, none, none, none, none, none, none, none, none, none, none, none, none, none, none, none, none, none, none, none, none, none, none, none, none, none, none, none, none, none, none, none, none, none, none, none, none, none, none, none, none, none],
      [(⟨L + 1, 0⟩, .rows 43 8 true true [[.int .i64 d.tsn, .int .i64 d.st, .int .i64 d.sq, .int .i64 d.pr, .bool true, .bool d.la, .bool d.lo, .str d.pl]]), (⟨L + 1, 32⟩, .rows 37 4 true true [[.int .i64 0, .int .i64 0, .bool false, .str []]]),
       (⟨L + 1, 416⟩, .rows 37 4 true true [[.int .i64 d.st, .int .i64 d.pr, .bool d.lo, .str z.2.2.2.2.1]]),
       (⟨L + 1, z.2.2.1⟩, .rows 43 8 true true [(z.2.2.2.1.getD ⟨0, 0, 0, 0, false, false, false, []⟩).row]), (⟨L + 1, z.2.1⟩, .rows 3 1 true true (z.2.2.2.2.2.map eI))], 10000 * (z.1 + 1)⟩)
      (pre := fun z => 544 ≤ z.2.1 ∧ 544 ≤ z.2.2.1 ∧ z.2.1 ≠ z.2.2.1 ∧ z.2.1 < 10000 * (z.1 + 1) ∧ z.2.2.1 < 10000 * (z.1 + 1) ∧ z.2.2.2.2.2.length = z.1 ∧ z.2.2.2.2.2.Nodup ∧ (∀ n ∈ z.2.2.2.2.2, n ∈ ps.map Dat.tsn) ∧ (∀ x, z.2.2.2.1 = some x → x ∈ ps) ∧ z.2.2.2.2.1.length ≤ 1100 * z.1 ∧
        compG ps d (ps.length + 1) d [] [] = z.2.2.2.1.bind fun x => compG ps d (ps.length + 1 - z.1) x z.2.2.2.2.1 z.2.2.2.2.2) (μ := fun z => ps.length + 1 - z.1) (0, 640, 544, some d, [], []) ⟨by simp, by simp, by simp, by simp, by simp, by simp, by simp, by simp, by simp; exact hd, by simp, by simp⟩ ?_ ?_
    · refine Sub.trans (Sub.nilName 9 3 (wd := 1) (by omega) rfl) ?_
      refine Sub.of (fun n hn => hF2 n (by have : n.l = L + 1 := hn; omega)) (by simp only [go_sem, resVal, resVals, resVal1, one, Wk, WkL, WkLL, wkN, wkNL, wkNLL, UpdIn, UpdAll, BW, plainP, plainPL, subT, subH, subK, and_self, true_or, or_true, List.not_mem_nil, List.mem_cons, forall_eq, imp_self, implies_true, Nat.reduceSub, Nat.reduceAdd, Nat.reduceMul, Nat.reduceEqDiff, Nat.reduceLT, Nat.reduceLeDiff, Nat.reduceBEq, Nat.reduceBNe, reduceIte, reduceCtorEq, Int.reduceToNat, String.reduceEq, Option.isSome, List.length_nil]) ?_ (by simp only [go_sem, resVal, resVals, resVal1, one, Wk, WkL, WkLL, wkN, wkNL, wkNLL, UpdIn, UpdAll, BW, plainP, plainPL, subT, subH, subK, and_self, true_or, or_true, List.not_mem_nil, List.mem_cons, forall_eq, imp_self, implies_true, Nat.reduceSub, Nat.reduceAdd, Nat.reduceMul, Nat.reduceEqDiff, Nat.reduceLT, Nat.reduceLeDiff, Nat.reduceBEq, Nat.reduceBNe, reduceIte, reduceCtorEq, Int.reduceToNat, String.reduceEq]) (by simp)
      simp [subH, Tx.look, updH, setH, Dat.row, hfi]
    · rintro ⟨i, q, p, o, tx, ns⟩ ⟨hq1, hp1, hqp, hq2, hp2, hni, hnd, hns, ho, htx, hC⟩
      simp only at hq1 hp1 hqp hq2 hp2 hni hnd hns ho htx hC ⊢
      have hil : i ≤ ps.length := by
        have := nodup_sub hnd hns
        simp at this; omega
      cases o with
      | none =>
        have e : complete ps d = none := by simp only [complete, hfi, if_true, hC]; rfl
        rw [e]
        simp only [Option.isSome, resC, Msg.zero, Msg.row, Nat.add_zero, go_sem, Meths.get, meths, Nat.reduceSub, Nat.reduceAdd, Nat.reduceMul, Nat.reduceEqDiff, Nat.reduceLT, Nat.reduceLeDiff, Nat.reduceBEq, Nat.reduceBNe, reduceIte, reduceCtorEq, Int.reduceToNat, String.reduceEq]
        exact PostF.of (p := True) (v0 := .tup [.agg [.int .i64 0, .int .i64 0, .bool false, .str []], .nilS]) (.inr rfl) (by simp only [resVal, resVals, resVal1, one, Nat.add_zero, go_sem, Meths.get, meths, Nat.reduceSub, Nat.reduceAdd, Nat.reduceMul, Nat.reduceEqDiff, Nat.reduceLT, Nat.reduceLeDiff, Nat.reduceBEq, Nat.reduceBNe, reduceIte, reduceCtorEq, Int.reduceToNat, String.reduceEq]) trivial (by simp [Wk, WkL, Tx.look, List.take_of_length_le, nB, nB']) (by simp [wkN, wkNL]) (by simp [Tx.nf, nfl]) trivial (by simp [UpdAll, keys])
      | some x =>
        have hx := ho x rfl
        obtain ⟨hx1, hx2, hx3⟩ := hn x hx
        have p_0 : (p = 0) = False := by apply eq_false; omega
        have n0_p : (0 = p) = False := by apply eq_false; omega
        have p_32 : (p = 32) = False := by apply eq_false; omega
        have n32_p : (32 = p) = False := by apply eq_false; omega
        have p_416 : (p = 416) = False := by apply eq_false; omega
        have n416_p : (416 = p) = False := by apply eq_false; omega
        have p_q : (p = q) = False := by apply eq_false; omega
        have nq_p : (q = p) = False := by apply eq_false; omega
        have p_n1 : ∀ kk, (10000 * (i + 1) + kk = p) = False := fun kk => by apply eq_false; omega
        have p_n2 : ∀ kk, (p = 10000 * (i + 1) + kk) = False := fun kk => by apply eq_false; omega
        have p_n3 : (10000 * (i + 1) = p) = False := by apply eq_false; omega
        have p_n4 : (p = 10000 * (i + 1)) = False := by apply eq_false; omega
        have p_n5 : ∀ kk, ((⟨L + 1, p⟩ : Nm) == ⟨L + 1, 10000 * (i + 1) + kk⟩) = false := fun kk => by simp; omega
        have q_0 : (q = 0) = False := by apply eq_false; omega
        have n0_q : (0 = q) = False := by apply eq_false; omega
        have q_32 : (q = 32) = False := by apply eq_false; omega
        have n32_q : (32 = q) = False := by apply eq_false; omega
        have q_416 : (q = 416) = False := by apply eq_false; omega
        have n416_q : (416 = q) = False := by apply eq_false; omega
        have q_n1 : ∀ kk, (10000 * (i + 1) + kk = q) = False := fun kk => by apply eq_false; omega
        have q_n2 : ∀ kk, (q = 10000 * (i + 1) + kk) = False := fun kk => by apply eq_false; omega
        have q_n3 : (10000 * (i + 1) = q) = False := by apply eq_false; omega
        have q_n4 : (q = 10000 * (i + 1)) = False := by apply eq_false; omega
        have q_n5 : ∀ kk, ((⟨L + 1, q⟩ : Nm) == ⟨L + 1, 10000 * (i + 1) + kk⟩) = false := fun kk => by simp; omega
        obtain ⟨k, hk⟩ : ∃ k, ps.length + 1 - i = k + 1 := ⟨ps.length - i, by omega⟩
        have hC' : compG ps d (ps.length + 1) d [] [] = compG ps d (k + 1) x tx ns := by rw [hC, hk]; rfl
        have hnone : (x.st != d.st || x.sq != d.sq || x.lo != d.lo || (x.fi && !ns.isEmpty) || ns.contains x.tsn) = true → complete ps d = none := by
          intro h
          simp only [complete, hfi, if_true]; rw [hC', compG, if_pos h]; rfl
        have hgo : (x.st != d.st || x.sq != d.sq || x.lo != d.lo || (x.fi && !ns.isEmpty) || ns.contains x.tsn) = false → compG ps d (ps.length + 1) d [] [] = if x.la then some (tx ++ x.pl, ns ++ [x.tsn]) else match getT ps ((x.tsn + 1) % 4294967296) with
            | none => none
            | some d' => compG ps d k d' (tx ++ x.pl) (ns ++ [x.tsn]) := by
          intro h
          rw [hC']
          rw [compG, if_neg (by rw [h]; simp)]; rfl
        cases h1 : x.st != d.st with
        | true =>
          rw [hnone (by rw [h1]; rfl)]
          simp only [nS2, nS2', Nat.add_assoc, Nat.reduceAdd, Option.isSome, Option.getD, Dat.row, h1, p_0, n0_p, p_32, n32_p, p_416, n416_p, p_q, nq_p, p_n1, p_n2, p_n3, p_n4, p_n5, q_0, n0_q, q_32, n32_q, q_416, n416_q, q_n1, q_n2, q_n3, q_n4, q_n5, nB, nB', resC, Msg.zero, Msg.row, Nat.add_zero, go_sem, Meths.get, meths, Nat.reduceSub, Nat.reduceAdd, Nat.reduceMul, Nat.reduceEqDiff, Nat.reduceLT, Nat.reduceLeDiff, Nat.reduceBEq, Nat.reduceBNe, reduceIte, reduceCtorEq, Int.reduceToNat, String.reduceEq]
          exact PostF.of (p := True) (v0 := .tup [.agg [.int .i64 0, .int .i64 0, .bool false, .str []], .nilS]) (.inr rfl) (by simp only [resVal, resVals, resVal1, one, Nat.add_zero, go_sem, Meths.get, meths, Nat.reduceSub, Nat.reduceAdd, Nat.reduceMul, Nat.reduceEqDiff, Nat.reduceLT, Nat.reduceLeDiff, Nat.reduceBEq, Nat.reduceBNe, reduceIte, reduceCtorEq, Int.reduceToNat, String.reduceEq]) trivial (by simp [Wk, WkL, Tx.look, List.take_of_length_le, nB, nB']) (by simp [wkN, wkNL]) (by simp [Tx.nf, nfl]) trivial (by simp [UpdAll, keys])
        | false =>
        cases h2 : x.sq != d.sq with
        | true =>
          rw [hnone (by rw [h1, h2]; rfl)]
          simp only [nS2, nS2', Nat.add_assoc, Nat.reduceAdd, Option.isSome, Option.getD, Dat.row, h1, p_0, n0_p, p_32, n32_p, p_416, n416_p, p_q, nq_p, p_n1, p_n2, p_n3, p_n4, p_n5, q_0, n0_q, q_32, n32_q, q_416, n416_q, q_n1, q_n2, q_n3, q_n4, q_n5, nB, nB', h2, resC, Msg.zero, Msg.row, Nat.add_zero, go_sem, Meths.get, meths, Nat.reduceSub, Nat.reduceAdd, Nat.reduceMul, Nat.reduceEqDiff, Nat.reduceLT, Nat.reduceLeDiff, Nat.reduceBEq, Nat.reduceBNe, reduceIte, reduceCtorEq, Int.reduceToNat, String.reduceEq]
          exact PostF.of (p := True) (v0 := .tup [.agg [.int .i64 0, .int .i64 0, .bool false, .str []], .nilS]) (.inr rfl) (by simp only [resVal, resVals, resVal1, one, Nat.add_zero, go_sem, Meths.get, meths, Nat.reduceSub, Nat.reduceAdd, Nat.reduceMul, Nat.reduceEqDiff, Nat.reduceLT, Nat.reduceLeDiff, Nat.reduceBEq, Nat.reduceBNe, reduceIte, reduceCtorEq, Int.reduceToNat, String.reduceEq]) trivial (by simp [Wk, WkL, Tx.look, List.take_of_length_le, nB, nB']) (by simp [wkN, wkNL]) (by simp [Tx.nf, nfl]) trivial (by simp [UpdAll, keys])
        | false =>
        have e3 : (x.lo != d.lo) = !(x.lo == d.lo) := rfl
        cases h3 : x.lo == d.lo with
        | false =>
          rw [hnone (by rw [h1, h2, e3, h3]; rfl)]
          simp only [nS2, nS2', Nat.add_assoc, Nat.reduceAdd, Option.isSome, Option.getD, Dat.row, h1, p_0, n0_p, p_32, n32_p, p_416, n416_p, p_q, nq_p, p_n1, p_n2, p_n3, p_n4, p_n5, q_0, n0_q, q_32, n32_q, q_416, n416_q, q_n1, q_n2, q_n3, q_n4, q_n5, nB, nB', h2, h3, resC, Msg.zero, Msg.row, Nat.add_zero, go_sem, Meths.get, meths, Nat.reduceSub, Nat.reduceAdd, Nat.reduceMul, Nat.reduceEqDiff, Nat.reduceLT, Nat.reduceLeDiff, Nat.reduceBEq, Nat.reduceBNe, reduceIte, reduceCtorEq, Int.reduceToNat, String.reduceEq]
          exact PostF.of (p := True) (v0 := .tup [.agg [.int .i64 0, .int .i64 0, .bool false, .str []], .nilS]) (.inr rfl) (by simp only [resVal, resVals, resVal1, one, Nat.add_zero, go_sem, Meths.get, meths, Nat.reduceSub, Nat.reduceAdd, Nat.reduceMul, Nat.reduceEqDiff, Nat.reduceLT, Nat.reduceLeDiff, Nat.reduceBEq, Nat.reduceBNe, reduceIte, reduceCtorEq, Int.reduceToNat, String.reduceEq]) trivial (by simp [Wk, WkL, Tx.look, List.take_of_length_le, nB, nB']) (by simp [wkN, wkNL]) (by simp [Tx.nf, nfl]) trivial (by simp [UpdAll, keys])
        | true =>
        have h5 : (!ns.isEmpty) = decide ((0 : Int) < (ns.length : Int)) := by
          cases ns with
          | nil => rfl
          | cons a l => rw [dT (by simp only [List.length_cons]; omega)]; rfl
        have h7 : ns.contains x.tsn = ns.any fun z => x.tsn == z := List.contains_eq_any_beq
        cases h4 : x.fi && decide ((0 : Int) < (ns.length : Int)) with
        | true =>
          rw [Bool.and_eq_true] at h4
          rw [hnone (by rw [h1, h2, e3, h3, h5, h4.1, h4.2]; rfl)]
          simp only [nS2, nS2', Nat.add_assoc, Nat.reduceAdd, Option.isSome, Option.getD, Dat.row, h1, p_0, n0_p, p_32, n32_p, p_416, n416_p, p_q, nq_p, p_n1, p_n2, p_n3, p_n4, p_n5, q_0, n0_q, q_32, n32_q, q_416, n416_q, q_n1, q_n2, q_n3, q_n4, q_n5, nB, nB', h2, h3, h4.1, h4.2, resC, Msg.zero, Msg.row, Nat.add_zero, go_sem, Meths.get, meths, Nat.reduceSub, Nat.reduceAdd, Nat.reduceMul, Nat.reduceEqDiff, Nat.reduceLT, Nat.reduceLeDiff, Nat.reduceBEq, Nat.reduceBNe, reduceIte, reduceCtorEq, Int.reduceToNat, String.reduceEq]
          exact PostF.of (p := True) (v0 := .tup [.agg [.int .i64 0, .int .i64 0, .bool false, .str []], .nilS]) (.inr rfl) (by simp only [resVal, resVals, resVal1, one, Nat.add_zero, go_sem, Meths.get, meths, Nat.reduceSub, Nat.reduceAdd, Nat.reduceMul, Nat.reduceEqDiff, Nat.reduceLT, Nat.reduceLeDiff, Nat.reduceBEq, Nat.reduceBNe, reduceIte, reduceCtorEq, Int.reduceToNat, String.reduceEq]) trivial (by simp [Wk, WkL, Tx.look, List.take_of_length_le, nB, nB']) (by simp [wkN, wkNL]) (by simp [Tx.nf, nfl]) trivial (by simp [UpdAll, keys])
        | false =>
          cases h6 : ns.any fun z => x.tsn == z with
          | true =>
            rw [hnone (by rw [h1, h2, e3, h3, h5, h7, h4, h6]; rfl)]
            cases hf : x.fi with
            | false =>
              simp only [nS2, nS2', Nat.add_assoc, Nat.reduceAdd, Option.isSome, Option.getD, Dat.row, h1, p_0, n0_p, p_32, n32_p, p_416, n416_p, p_q, nq_p, p_n1, p_n2, p_n3, p_n4, p_n5, q_0, n0_q, q_32, n32_q, q_416, n416_q, q_n1, q_n2, q_n3, q_n4, q_n5, nB, nB', h2, h3, hf, resC, Msg.zero, Msg.row, Nat.add_zero, go_sem, Meths.get, meths, Nat.reduceSub, Nat.reduceAdd, Nat.reduceMul, Nat.reduceEqDiff, Nat.reduceLT, Nat.reduceLeDiff, Nat.reduceBEq, Nat.reduceBNe, reduceIte, reduceCtorEq, Int.reduceToNat, String.reduceEq]
              refine CallVC.pure (args2 := [.fs 1 (ns.map eI), _]) ⟨by simp [Wk, n0_q, q_0, q_32, q_416, n32_q, n416_q, p_q, nq_p, List.take_of_length_le], rfl, trivial⟩ (contains_ok ns x.tsn (by omega)) rfl ?_
              simp only [nS2, nS2', Nat.add_assoc, Nat.reduceAdd, Option.isSome, Option.getD, Dat.row, h1, p_0, n0_p, p_32, n32_p, p_416, n416_p, p_q, nq_p, p_n1, p_n2, p_n3, p_n4, p_n5, q_0, n0_q, q_32, n32_q, q_416, n416_q, q_n1, q_n2, q_n3, q_n4, q_n5, nB, nB', h2, h3, hf, h6, resC, Msg.zero, Msg.row, Nat.add_zero, go_sem, Meths.get, meths, Nat.reduceSub, Nat.reduceAdd, Nat.reduceMul, Nat.reduceEqDiff, Nat.reduceLT, Nat.reduceLeDiff, Nat.reduceBEq, Nat.reduceBNe, reduceIte, reduceCtorEq, Int.reduceToNat, String.reduceEq]
              exact PostF.of (p := True) (v0 := .tup [.agg [.int .i64 0, .int .i64 0, .bool false, .str []], .nilS]) (.inr rfl) (by simp only [resVal, resVals, resVal1, one, Nat.add_zero, go_sem, Meths.get, meths, Nat.reduceSub, Nat.reduceAdd, Nat.reduceMul, Nat.reduceEqDiff, Nat.reduceLT, Nat.reduceLeDiff, Nat.reduceBEq, Nat.reduceBNe, reduceIte, reduceCtorEq, Int.reduceToNat, String.reduceEq]) trivial (by simp [Wk, WkL, Tx.look, List.take_of_length_le, nB, nB']) (by simp [wkN, wkNL]) (by simp [Tx.nf, nfl]) trivial (by simp [UpdAll, keys])
            | true =>
              have h8 : decide ((0 : Int) < (ns.length : Int)) = false := by rw [hf] at h4; exact h4
              simp only [nS2, nS2', Nat.add_assoc, Nat.reduceAdd, Option.isSome, Option.getD, Dat.row, h1, p_0, n0_p, p_32, n32_p, p_416, n416_p, p_q, nq_p, p_n1, p_n2, p_n3, p_n4, p_n5, q_0, n0_q, q_32, n32_q, q_416, n416_q, q_n1, q_n2, q_n3, q_n4, q_n5, nB, nB', h2, h3, hf, h8, resC, Msg.zero, Msg.row, Nat.add_zero, go_sem, Meths.get, meths, Nat.reduceSub, Nat.reduceAdd, Nat.reduceMul, Nat.reduceEqDiff, Nat.reduceLT, Nat.reduceLeDiff, Nat.reduceBEq, Nat.reduceBNe, reduceIte, reduceCtorEq, Int.reduceToNat, String.reduceEq]
              refine CallVC.pure (args2 := [.fs 1 (ns.map eI), _]) ⟨by simp [Wk, n0_q, q_0, q_32, q_416, n32_q, n416_q, p_q, nq_p, List.take_of_length_le], rfl, trivial⟩ (contains_ok ns x.tsn (by omega)) rfl ?_
              simp only [nS2, nS2', Nat.add_assoc, Nat.reduceAdd, Option.isSome, Option.getD, Dat.row, h1, p_0, n0_p, p_32, n32_p, p_416, n416_p, p_q, nq_p, p_n1, p_n2, p_n3, p_n4, p_n5, q_0, n0_q, q_32, n32_q, q_416, n416_q, q_n1, q_n2, q_n3, q_n4, q_n5, nB, nB', h2, h3, hf, h8, h6, resC, Msg.zero, Msg.row, Nat.add_zero, go_sem, Meths.get, meths, Nat.reduceSub, Nat.reduceAdd, Nat.reduceMul, Nat.reduceEqDiff, Nat.reduceLT, Nat.reduceLeDiff, Nat.reduceBEq, Nat.reduceBNe, reduceIte, reduceCtorEq, Int.reduceToNat, String.reduceEq]
              exact PostF.of (p := True) (v0 := .tup [.agg [.int .i64 0, .int .i64 0, .bool false, .str []], .nilS]) (.inr rfl) (by simp only [resVal, resVals, resVal1, one, Nat.add_zero, go_sem, Meths.get, meths, Nat.reduceSub, Nat.reduceAdd, Nat.reduceMul, Nat.reduceEqDiff, Nat.reduceLT, Nat.reduceLeDiff, Nat.reduceBEq, Nat.reduceBNe, reduceIte, reduceCtorEq, Int.reduceToNat, String.reduceEq]) trivial (by simp [Wk, WkL, Tx.look, List.take_of_length_le, nB, nB']) (by simp [wkN, wkNL]) (by simp [Tx.nf, nfl]) trivial (by simp [UpdAll, keys])
          | false =>
            have hg := hgo (by rw [h1, h2, e3, h3, h5, h7, h4, h6]; rfl)
            cases hla : x.la with
            | true =>
              have e : complete ps d = some (⟨d.st, d.pr, d.lo, tx ++ x.pl⟩, ns ++ [x.tsn]) := by
                simp only [complete, hfi, if_true]; rw [hg, hla]; rfl
              rw [e]
              cases hf : x.fi with
              | false =>
                simp only [nS2, nS2', Nat.add_assoc, Nat.reduceAdd, Option.isSome, Option.getD, Dat.row, h1, p_0, n0_p, p_32, n32_p, p_416, n416_p, p_q, nq_p, p_n1, p_n2, p_n3, p_n4, p_n5, q_0, n0_q, q_32, n32_q, q_416, n416_q, q_n1, q_n2, q_n3, q_n4, q_n5, nB, nB', h2, h3, hf, hla, resC, Msg.zero, Msg.row, Nat.add_zero, go_sem, Meths.get, meths, Nat.reduceSub, Nat.reduceAdd, Nat.reduceMul, Nat.reduceEqDiff, Nat.reduceLT, Nat.reduceLeDiff, Nat.reduceBEq, Nat.reduceBNe, reduceIte, reduceCtorEq, Int.reduceToNat, String.reduceEq]
                refine CallVC.pure (args2 := [.fs 1 (ns.map eI), _]) ⟨by simp [Wk, n0_q, q_0, q_32, q_416, n32_q, n416_q, p_q, nq_p, List.take_of_length_le], rfl, trivial⟩ (contains_ok ns x.tsn (by omega)) rfl ?_
                simp only [nS2, nS2', Nat.add_assoc, Nat.reduceAdd, Option.isSome, Option.getD, Dat.row, h1, p_0, n0_p, p_32, n32_p, p_416, n416_p, p_q, nq_p, p_n1, p_n2, p_n3, p_n4, p_n5, q_0, n0_q, q_32, n32_q, q_416, n416_q, q_n1, q_n2, q_n3, q_n4, q_n5, nB, nB', h2, h3, hf, h6, hla, resC, Msg.zero, Msg.row, List.length_map, Nat.add_zero, go_sem, Meths.get, meths, Nat.reduceSub, Nat.reduceAdd, Nat.reduceMul, Nat.reduceEqDiff, Nat.reduceLT, Nat.reduceLeDiff, Nat.reduceBEq, Nat.reduceBNe, reduceIte, reduceCtorEq, Int.reduceToNat, String.reduceEq]
                repeat refine And.intro (by first | omega | exact ⟨by omega, by omega⟩ | exact ⟨by omega, by omega, by omega⟩ | exact ⟨⟨by omega, by omega⟩, by omega, by omega⟩ | exact okDyn_num (fun x => x.i) (by kernel_rfl) | kernel_rfl | exact okDyn_num (fun _ => 0) (by kernel_rfl)) ?_
                exact PostF.of (p := True) (v0 := .tup [.agg [.int .i64 d.st, .int .i64 d.pr, .bool d.lo, .str (tx ++ x.pl)], .sl ⟨L + 1, 10000 * (i + 1) + 1408⟩ 0 (ns.length + 1)] ) (.inr rfl) (by simp only [resVal, resVals, resVal1, one, Nat.add_zero, go_sem, Meths.get, meths, Nat.reduceSub, Nat.reduceAdd, Nat.reduceMul, Nat.reduceEqDiff, Nat.reduceLT, Nat.reduceLeDiff, Nat.reduceBEq, Nat.reduceBNe, reduceIte, reduceCtorEq, Int.reduceToNat, String.reduceEq]) trivial (by simp [Wk, WkL, Tx.look, List.take_of_length_le, nB, nB', q_32, n32_q, q_416, n416_q, q_0, n0_q, eI, p_n1, q_n1, p_n2, q_n2]) (by simp [wkN, wkNL]) (by simp [Tx.nf, nfl]) trivial (by simp [UpdAll, keys])
              | true =>
                have h8 : decide ((0 : Int) < (ns.length : Int)) = false := by rw [hf] at h4; exact h4
                simp only [nS2, nS2', Nat.add_assoc, Nat.reduceAdd, Option.isSome, Option.getD, Dat.row, h1, p_0, n0_p, p_32, n32_p, p_416, n416_p, p_q, nq_p, p_n1, p_n2, p_n3, p_n4, p_n5, q_0, n0_q, q_32, n32_q, q_416, n416_q, q_n1, q_n2, q_n3, q_n4, q_n5, nB, nB', h2, h3, hf, h8, hla, resC, Msg.zero, Msg.row, Nat.add_zero, go_sem, Meths.get, meths, Nat.reduceSub, Nat.reduceAdd, Nat.reduceMul, Nat.reduceEqDiff, Nat.reduceLT, Nat.reduceLeDiff, Nat.reduceBEq, Nat.reduceBNe, reduceIte, reduceCtorEq, Int.reduceToNat, String.reduceEq]
                refine CallVC.pure (args2 := [.fs 1 (ns.map eI), _]) ⟨by simp [Wk, n0_q, q_0, q_32, q_416, n32_q, n416_q, p_q, nq_p, List.take_of_length_le], rfl, trivial⟩ (contains_ok ns x.tsn (by omega)) rfl ?_
                simp only [nS2, nS2', Nat.add_assoc, Nat.reduceAdd, Option.isSome, Option.getD, Dat.row, h1, p_0, n0_p, p_32, n32_p, p_416, n416_p, p_q, nq_p, p_n1, p_n2, p_n3, p_n4, p_n5, q_0, n0_q, q_32, n32_q, q_416, n416_q, q_n1, q_n2, q_n3, q_n4, q_n5, nB, nB', h2, h3, hf, h8, h6, hla, resC, Msg.zero, Msg.row, List.length_map, Nat.add_zero, go_sem, Meths.get, meths, Nat.reduceSub, Nat.reduceAdd, Nat.reduceMul, Nat.reduceEqDiff, Nat.reduceLT, Nat.reduceLeDiff, Nat.reduceBEq, Nat.reduceBNe, reduceIte, reduceCtorEq, Int.reduceToNat, String.reduceEq]
                repeat refine And.intro (by first | omega | exact ⟨by omega, by omega⟩ | exact ⟨by omega, by omega, by omega⟩ | exact ⟨⟨by omega, by omega⟩, by omega, by omega⟩ | exact okDyn_num (fun x => x.i) (by kernel_rfl) | kernel_rfl | exact okDyn_num (fun _ => 0) (by kernel_rfl)) ?_
                exact PostF.of (p := True) (v0 := .tup [.agg [.int .i64 d.st, .int .i64 d.pr, .bool d.lo, .str (tx ++ x.pl)], .sl ⟨L + 1, 10000 * (i + 1) + 1504⟩ 0 (ns.length + 1)] ) (.inr rfl) (by simp only [resVal, resVals, resVal1, one, Nat.add_zero, go_sem, Meths.get, meths, Nat.reduceSub, Nat.reduceAdd, Nat.reduceMul, Nat.reduceEqDiff, Nat.reduceLT, Nat.reduceLeDiff, Nat.reduceBEq, Nat.reduceBNe, reduceIte, reduceCtorEq, Int.reduceToNat, String.reduceEq]) trivial (by simp [Wk, WkL, Tx.look, List.take_of_length_le, nB, nB', q_32, n32_q, q_416, n416_q, q_0, n0_q, eI, p_n1, q_n1, p_n2, q_n2]) (by simp [wkN, wkNL]) (by simp [Tx.nf, nfl]) trivial (by simp [UpdAll, keys])
            | false =>
              have h32 : (2 : Int) ^ (Int.toNat 32) = 4294967296 := rfl
              have hik : intKeys (ps.map tK) := by intro k hk; obtain ⟨y, _, rfl⟩ := List.mem_map.1 hk; exact ⟨_, rfl⟩
              have hgt := mGet_map ps ((x.tsn + 1) % 4294967296)
              have hnd' : (ns ++ [x.tsn]).Nodup := by
                rw [List.nodup_append]
                refine ⟨hnd, by simp, fun a ha b hb => ?_⟩
                simp at hb; subst hb
                intro hab
                have : ns.any (fun z => x.tsn == z) = true := List.any_eq_true.2 ⟨a, ha, by simp [hab]⟩
                rw [h6] at this; cases this
              have hns' : ∀ n ∈ ns ++ [x.tsn], n ∈ ps.map Dat.tsn := by
                intro n hn'
                rcases List.mem_append.1 hn' with h | h
                · exact hns n h
                · simp at h; subst h; exact List.mem_map.2 ⟨x, hx, rfl⟩
              cases hf : x.fi with
              | false =>
                simp only [nS2, nS2', Nat.add_assoc, Nat.reduceAdd, Option.isSome, Option.getD, Dat.row, h1, p_0, n0_p, p_32, n32_p, p_416, n416_p, p_q, nq_p, p_n1, p_n2, p_n3, p_n4, p_n5, q_0, n0_q, q_32, n32_q, q_416, n416_q, q_n1, q_n2, q_n3, q_n4, q_n5, nB, nB', h2, h3, hf, hla, Nat.add_zero, go_sem, Meths.get, meths, Nat.reduceSub, Nat.reduceAdd, Nat.reduceMul, Nat.reduceEqDiff, Nat.reduceLT, Nat.reduceLeDiff, Nat.reduceBEq, Nat.reduceBNe, reduceIte, reduceCtorEq, Int.reduceToNat, String.reduceEq]
                refine CallVC.pure (args2 := [.fs 1 (ns.map eI), _]) ⟨by simp [Wk, n0_q, q_0, q_32, q_416, n32_q, n416_q, p_q, nq_p, List.take_of_length_le], rfl, trivial⟩ (contains_ok ns x.tsn (by omega)) rfl ?_
                simp only [nS2, nS2', Nat.add_assoc, Nat.reduceAdd, Option.isSome, Option.getD, Dat.row, h1, p_0, n0_p, p_32, n32_p, p_416, n416_p, p_q, nq_p, p_n1, p_n2, p_n3, p_n4, p_n5, q_0, n0_q, q_32, n32_q, q_416, n416_q, q_n1, q_n2, q_n3, q_n4, q_n5, nB, nB', h2, h3, hf, h6, hla, List.length_map, Nat.add_zero, go_sem, Meths.get, meths, Nat.reduceSub, Nat.reduceAdd, Nat.reduceMul, Nat.reduceEqDiff, Nat.reduceLT, Nat.reduceLeDiff, Nat.reduceBEq, Nat.reduceBNe, reduceIte, reduceCtorEq, Int.reduceToNat, String.reduceEq]
                repeat refine And.intro (by first | omega | exact ⟨by omega, by omega⟩ | exact ⟨by omega, by omega, by omega⟩ | exact ⟨⟨by omega, by omega⟩, by omega, by omega⟩ | exact okDyn_num (fun x => x.i) (by kernel_rfl) | kernel_rfl | exact okDyn_num (fun _ => 0) (by kernel_rfl)) ?_
                refine CallVC.same (behind32_ok x.tsn (by omega) (by omega)) ?_
                cases hGT : getT ps ((x.tsn + 1) % 4294967296) with
                | none =>
                  rw [hGT] at hgt hg
                  simp only [nS2, nS2', Nat.add_assoc, Nat.reduceAdd, Option.isSome, Option.getD, Dat.row, h1, p_0, n0_p, p_32, n32_p, p_416, n416_p, p_q, nq_p, p_n1, p_n2, p_n3, p_n4, p_n5, q_0, n0_q, q_32, n32_q, q_416, n416_q, q_n1, q_n2, q_n3, q_n4, q_n5, nB, nB', hgt, Option.map_none, Nat.add_zero, go_sem, Meths.get, meths, Nat.reduceSub, Nat.reduceAdd, Nat.reduceMul, Nat.reduceEqDiff, Nat.reduceLT, Nat.reduceLeDiff, Nat.reduceBEq, Nat.reduceBNe, reduceIte, reduceCtorEq, Int.reduceToNat, String.reduceEq]
                  refine ⟨hik, (i + 1, 10000 * (i + 1) + 1408, 10000 * (i + 1) + 1568, none, tx ++ x.pl, ns ++ [x.tsn]), ⟨by simp only []; omega, by simp only []; omega, by simp only []; omega, by simp only []; omega, by simp only []; omega, by simp; omega, hnd', hns', by simp, by simp; omega, by rw [hg, hla]; rfl⟩, by simp only []; omega, ?_⟩
                  refine Sub.of (fun n hn => hF2 n (by have : n.l = L + 1 := hn; omega)) (by simp [subT]) ?_ (by simp [subK, keys]) (by simp only []; omega)
                  simp [subH, Tx.look, eI, nS2, nS2', Nat.add_assoc, Nat.reduceAdd, Option.isSome, Option.getD, Dat.row, h1, p_0, n0_p, p_32, n32_p, p_416, n416_p, p_q, nq_p, p_n1, p_n2, p_n3, p_n4, p_n5, q_0, n0_q, q_32, n32_q, q_416, n416_q, q_n1, q_n2, q_n3, q_n4, q_n5, nB, nB']
                | some y =>
                  rw [hGT] at hgt hg
                  simp only [nS2, nS2', Nat.add_assoc, Nat.reduceAdd, Option.isSome, Option.getD, Dat.row, h1, p_0, n0_p, p_32, n32_p, p_416, n416_p, p_q, nq_p, p_n1, p_n2, p_n3, p_n4, p_n5, q_0, n0_q, q_32, n32_q, q_416, n416_q, q_n1, q_n2, q_n3, q_n4, q_n5, nB, nB', hgt, Option.map_some, tV, Nat.add_zero, go_sem, Meths.get, meths, Nat.reduceSub, Nat.reduceAdd, Nat.reduceMul, Nat.reduceEqDiff, Nat.reduceLT, Nat.reduceLeDiff, Nat.reduceBEq, Nat.reduceBNe, reduceIte, reduceCtorEq, Int.reduceToNat, String.reduceEq]
                  refine ⟨hik, (i + 1, 10000 * (i + 1) + 1408, 10000 * (i + 1) + 1568, some y, tx ++ x.pl, ns ++ [x.tsn]), ⟨by simp only []; omega, by simp only []; omega, by simp only []; omega, by simp only []; omega, by simp only []; omega, by simp; omega, hnd', hns', by intro z hz; simp at hz; subst hz; exact (getT_mem hGT).1, by simp; omega, by rw [hg, hla]; show _ = compG ps d (ps.length + 1 - (i + 1)) y (tx ++ x.pl) (ns ++ [x.tsn]); rw [show ps.length + 1 - (i + 1) = k by omega]; rfl⟩, by simp only []; omega, ?_⟩
                  refine Sub.of (fun n hn => hF2 n (by have : n.l = L + 1 := hn; omega)) (by simp [subT]) ?_ (by simp [subK, keys]) (by simp only []; omega)
                  simp [subH, Tx.look, eI, nS2, nS2', Nat.add_assoc, Nat.reduceAdd, Option.isSome, Option.getD, Dat.row, h1, p_0, n0_p, p_32, n32_p, p_416, n416_p, p_q, nq_p, p_n1, p_n2, p_n3, p_n4, p_n5, q_0, n0_q, q_32, n32_q, q_416, n416_q, q_n1, q_n2, q_n3, q_n4, q_n5, nB, nB']
              | true =>
                have h8 : decide ((0 : Int) < (ns.length : Int)) = false := by rw [hf] at h4; exact h4
                simp only [nS2, nS2', Nat.add_assoc, Nat.reduceAdd, Option.isSome, Option.getD, Dat.row, h1, p_0, n0_p, p_32, n32_p, p_416, n416_p, p_q, nq_p, p_n1, p_n2, p_n3, p_n4, p_n5, q_0, n0_q, q_32, n32_q, q_416, n416_q, q_n1, q_n2, q_n3, q_n4, q_n5, nB, nB', h2, h3, hf, h8, hla, Nat.add_zero, go_sem, Meths.get, meths, Nat.reduceSub, Nat.reduceAdd, Nat.reduceMul, Nat.reduceEqDiff, Nat.reduceLT, Nat.reduceLeDiff, Nat.reduceBEq, Nat.reduceBNe, reduceIte, reduceCtorEq, Int.reduceToNat, String.reduceEq]
                refine CallVC.pure (args2 := [.fs 1 (ns.map eI), _]) ⟨by simp [Wk, n0_q, q_0, q_32, q_416, n32_q, n416_q, p_q, nq_p, List.take_of_length_le], rfl, trivial⟩ (contains_ok ns x.tsn (by omega)) rfl ?_
                simp only [nS2, nS2', Nat.add_assoc, Nat.reduceAdd, Option.isSome, Option.getD, Dat.row, h1, p_0, n0_p, p_32, n32_p, p_416, n416_p, p_q, nq_p, p_n1, p_n2, p_n3, p_n4, p_n5, q_0, n0_q, q_32, n32_q, q_416, n416_q, q_n1, q_n2, q_n3, q_n4, q_n5, nB, nB', h2, h3, hf, h8, h6, hla, List.length_map, Nat.add_zero, go_sem, Meths.get, meths, Nat.reduceSub, Nat.reduceAdd, Nat.reduceMul, Nat.reduceEqDiff, Nat.reduceLT, Nat.reduceLeDiff, Nat.reduceBEq, Nat.reduceBNe, reduceIte, reduceCtorEq, Int.reduceToNat, String.reduceEq]
                repeat refine And.intro (by first | omega | exact ⟨by omega, by omega⟩ | exact ⟨by omega, by omega, by omega⟩ | exact ⟨⟨by omega, by omega⟩, by omega, by omega⟩ | exact okDyn_num (fun x => x.i) (by kernel_rfl) | kernel_rfl | exact okDyn_num (fun _ => 0) (by kernel_rfl)) ?_
                refine CallVC.same (behind32_ok x.tsn (by omega) (by omega)) ?_
                cases hGT : getT ps ((x.tsn + 1) % 4294967296) with
                | none =>
                  rw [hGT] at hgt hg
                  simp only [nS2, nS2', Nat.add_assoc, Nat.reduceAdd, Option.isSome, Option.getD, Dat.row, h1, p_0, n0_p, p_32, n32_p, p_416, n416_p, p_q, nq_p, p_n1, p_n2, p_n3, p_n4, p_n5, q_0, n0_q, q_32, n32_q, q_416, n416_q, q_n1, q_n2, q_n3, q_n4, q_n5, nB, nB', hgt, Option.map_none, Nat.add_zero, go_sem, Meths.get, meths, Nat.reduceSub, Nat.reduceAdd, Nat.reduceMul, Nat.reduceEqDiff, Nat.reduceLT, Nat.reduceLeDiff, Nat.reduceBEq, Nat.reduceBNe, reduceIte, reduceCtorEq, Int.reduceToNat, String.reduceEq]
                  refine ⟨hik, (i + 1, 10000 * (i + 1) + 1504, 10000 * (i + 1) + 1664, none, tx ++ x.pl, ns ++ [x.tsn]), ⟨by simp only []; omega, by simp only []; omega, by simp only []; omega, by simp only []; omega, by simp only []; omega, by simp; omega, hnd', hns', by simp, by simp; omega, by rw [hg, hla]; rfl⟩, by simp only []; omega, ?_⟩
                  refine Sub.of (fun n hn => hF2 n (by have : n.l = L + 1 := hn; omega)) (by simp [subT]) ?_ (by simp [subK, keys]) (by simp only []; omega)
                  simp [subH, Tx.look, eI, nS2, nS2', Nat.add_assoc, Nat.reduceAdd, Option.isSome, Option.getD, Dat.row, h1, p_0, n0_p, p_32, n32_p, p_416, n416_p, p_q, nq_p, p_n1, p_n2, p_n3, p_n4, p_n5, q_0, n0_q, q_32, n32_q, q_416, n416_q, q_n1, q_n2, q_n3, q_n4, q_n5, nB, nB']
                | some y =>
                  rw [hGT] at hgt hg
                  simp only [nS2, nS2', Nat.add_assoc, Nat.reduceAdd, Option.isSome, Option.getD, Dat.row, h1, p_0, n0_p, p_32, n32_p, p_416, n416_p, p_q, nq_p, p_n1, p_n2, p_n3, p_n4, p_n5, q_0, n0_q, q_32, n32_q, q_416, n416_q, q_n1, q_n2, q_n3, q_n4, q_n5, nB, nB', hgt, Option.map_some, tV, Nat.add_zero, go_sem, Meths.get, meths, Nat.reduceSub, Nat.reduceAdd, Nat.reduceMul, Nat.reduceEqDiff, Nat.reduceLT, Nat.reduceLeDiff, Nat.reduceBEq, Nat.reduceBNe, reduceIte, reduceCtorEq, Int.reduceToNat, String.reduceEq]
                  refine ⟨hik, (i + 1, 10000 * (i + 1) + 1504, 10000 * (i + 1) + 1664, some y, tx ++ x.pl, ns ++ [x.tsn]), ⟨by simp only []; omega, by simp only []; omega, by simp only []; omega, by simp only []; omega, by simp only []; omega, by simp; omega, hnd', hns', by intro z hz; simp at hz; subst hz; exact (getT_mem hGT).1, by simp; omega, by rw [hg, hla]; show _ = compG ps d (ps.length + 1 - (i + 1)) y (tx ++ x.pl) (ns ++ [x.tsn]); rw [show ps.length + 1 - (i + 1) = k by omega]; rfl⟩, by simp only []; omega, ?_⟩
                  refine Sub.of (fun n hn => hF2 n (by have : n.l = L + 1 := hn; omega)) (by simp [subT]) ?_ (by simp [subK, keys]) (by simp only []; omega)
                  simp [subH, Tx.look, eI, nS2, nS2', Nat.add_assoc, Nat.reduceAdd, Option.isSome, Option.getD, Dat.row, h1, p_0, n0_p, p_32, n32_p, p_416, n416_p, p_q, nq_p, p_n1, p_n2, p_n3, p_n4, p_n5, q_0, n0_q, q_32, n32_q, q_416, n416_q, q_n1, q_n2, q_n3, q_n4, q_n5, nB, nB']
end Go.Proofs.Ytfhhbkehlfipgaa
end
