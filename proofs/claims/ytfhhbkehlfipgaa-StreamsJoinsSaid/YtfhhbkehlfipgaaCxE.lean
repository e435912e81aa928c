/- Lemmas for the walk: C11. -/
import Derived.Test.YtfhhbkehlfipgaaCxD
import Derived.Test.YtfhhbkehlfipgaaCxC
section
set_option linter.unusedSimpArgs false
set_option linter.unusedVariables false
set_option linter.unnecessarySimpa false
set_option linter.unusedSectionVars false
namespace Go.Proofs.Ytfhhbkehlfipgaa
open Go.Tx
set_option maxRecDepth 100000
set_option maxHeartbeats 2000000
set_option linter.unusedSimpArgs false
set_option linter.unusedVariables false
/-! the law StreamsCuts -/
theorem takeS (X : List UInt8) (i : Nat) : X.take (1000 * i) ++ pieceS X i = X.take (1000 * (i + 1)) := by
  rw [show 1000 * (i + 1) = 1000 * i + 1000 by omega, List.take_add]; rfl
theorem zrs_len (n : Nat) : (zrs n).length = n := by simp [zrs]
theorem cuts_ok {F : SF} {L nx : Nat} (o i : Nat) (f a b : Int) (w r : PV) (ho : o < 256) (hi : i < 256) (ha1 : 0 ≤ a) (ha2 : a < 65536) (hb1 : 0 ≤ b) (hb2 : b < 65536) (st kd sz : Nat) (lo : Bool) (hst : st < 256) (hkd : kd < 256) (hsz : sz < 65536) :
    Con Try.prog 3 [.agg [.int .u8 o, .int .u8 i, .int .u32 f, .int .u16 a, .int .u16 b, w, r], .agg [.int .u8 st, .int .u8 kd, .int .u16 sz, .bool lo]] F L nx nx (.bool true) [] [] := by
  refine Con.body (cxOk (L + 1)) rfl rfl (fn := Try.f3) (c := Try.f3.body.getD .skip) (by kernel_rfl) (by rfl) (by kernel_rfl) rfl (by simp) ?_
  intro F3 hF1 hF2
  simp only [Try.f3, List.append_eq, List.cons_append, List.nil_append]
  simp only [cx, Nat.add_zero, go_sem, Meths.get, meths, Nat.reduceSub, Nat.reduceAdd, Nat.reduceMul, Nat.reduceEqDiff, Nat.reduceLT, Nat.reduceLeDiff, Nat.reduceBEq, Nat.reduceBNe, reduceIte, reduceCtorEq, Int.reduceToNat, String.reduceEq]
  refine CallVC.same (start_ok o i f a b w r ho hi ha1 ha2 hb1 hb2) ?_
  obtain ⟨out, hout⟩ : ∃ x, x = ((zrs (1 + o % 16)).set 0 a).set (o % 16) b := ⟨_, rfl⟩
  obtain ⟨inn, hinn⟩ : ∃ x, x = (zrs (1 + i % 16)).set 0 b := ⟨_, rfl⟩
  have lo1 : out.length = 1 + o % 16 := by rw [hout]; simp [zrs]
  have li1 : inn.length = 1 + i % 16 := by rw [hinn]; simp [zrs]
  rw [← hout, ← hinn]
  simp only [Nat.add_zero, go_sem, Meths.get, meths, Nat.reduceSub, Nat.reduceAdd, Nat.reduceMul, Nat.reduceEqDiff, Nat.reduceLT, Nat.reduceLeDiff, Nat.reduceBEq, Nat.reduceBNe, reduceIte, reduceCtorEq, Int.reduceToNat, String.reduceEq]
  refine CallVC.same (message_ok st kd sz (1 + o % 16) lo hst hkd hsz (by omega) (by omega)) ?_
  obtain ⟨S, hS⟩ : ∃ x, x = st % (1 + o % 16) := ⟨_, rfl⟩
  obtain ⟨P, hP⟩ : ∃ x, x = 50 + kd % 4 := ⟨_, rfl⟩
  obtain ⟨X, hX⟩ : ∃ x, x = msgText sz := ⟨_, rfl⟩
  have hSl : S < out.length := by rw [lo1, hS]; exact Nat.mod_lt _ (by omega)
  have hXl : 1 ≤ X.length ∧ X.length ≤ 3300 := by rw [hX]; simp [msgText]; omega
  have hPl : P < 54 := by omega
  rw [← hS, ← hP, ← hX, ← lo1, ← li1]
  have hso : out.all (serB 16) = true := by
    rw [List.all_eq_true]; intro x hx
    have : x = 0 ∨ x = a ∨ x = b := by
      rw [hout] at hx
      rcases List.mem_or_eq_of_mem_set hx with hx | hx
      · rcases List.mem_or_eq_of_mem_set hx with hx | hx
        · simp [zrs] at hx; exact .inl hx
        · exact .inr (.inl hx)
      · exact .inr (.inr hx)
    have e : (2 : Int) ^ (Int.toNat 16) = 65536 := rfl
    simp only [serB, e, Bool.and_eq_true, decide_eq_true_eq]; omega
  have hsi : inn.all (serB 16) = true := by
    rw [List.all_eq_true]; intro x hx
    have : x = 0 ∨ x = b := by
      rw [hinn] at hx
      rcases List.mem_or_eq_of_mem_set hx with hx | hx
      · simp [zrs] at hx; exact .inl hx
      · exact .inr hx
    have e : (2 : Int) ^ (Int.toNat 16) = 65536 := rfl
    simp only [serB, e, Bool.and_eq_true, decide_eq_true_eq]; omega
  simp only [Nat.add_zero, go_sem, Meths.get, meths, Nat.reduceSub, Nat.reduceAdd, Nat.reduceMul, Nat.reduceEqDiff, Nat.reduceLT, Nat.reduceLeDiff, Nat.reduceBEq, Nat.reduceBNe, reduceIte, reduceCtorEq, Int.reduceToNat, String.reduceEq]
  refine CallVC.gen (args2 := [.agg [.fs 1 (out.map eI), .fs 1 (inn.map eI), .fs 8 [], .int .i64 0, .int .i64 (-1), .fs 1 []], .agg [.int .i64 S, .int .i64 P, .bool lo, .str X]]) ?_ (send0_ok out inn 0 (by omega) (by omega) hso (by omega) (by omega) hsi rfl S P lo X hSl (by simp [serB]; omega) hXl.1 (by omega)) ?_
  · simp [Wk, WkL, List.take_of_length_le]
  obtain ⟨out2, hout2⟩ : ∃ x, x = outS out S lo := ⟨_, rfl⟩
  obtain ⟨N, hN⟩ : ∃ x, x = (X.length + 999) / 1000 := ⟨_, rfl⟩
  obtain ⟨R, hR⟩ : ∃ x, x = piecesS S P (seqS out S lo) lo X N := ⟨_, rfl⟩
  have lR : R.length = N := by rw [hR]; simp [piecesS]
  rw [← hN, ← hout2, ← hR]
  have f0 : ((0 : Int) != 0) = false := rfl
  have t1 : (((X.length : Int) + 999).tdiv 1000) = ((N : Nat) : Int) := by rw [hN]; rfl
  have f2 : ((N : Int) != (N : Int)) = false := by simp
  simp only [wkNL, wkN, unown, f0, t1, f2, Nat.add_zero, go_sem, Meths.get, meths, Nat.reduceSub, Nat.reduceAdd, Nat.reduceMul, Nat.reduceEqDiff, Nat.reduceLT, Nat.reduceLeDiff, Nat.reduceBEq, Nat.reduceBNe, reduceIte, reduceCtorEq, Int.reduceToNat, String.reduceEq]
  repeat refine And.intro (by first | omega | exact ⟨by omega, by omega⟩ | exact ⟨by omega, by omega, by omega⟩ | exact ⟨⟨by omega, by omega⟩, by omega, by omega⟩ | exact okDyn_num (fun x => x.i) (by kernel_rfl) | kernel_rfl | exact okDyn_num (fun _ => 0) (by kernel_rfl)) ?_
  refine loopK.intro _ _ (I := fun i : Nat => ⟨[none, none, none, none, none, some (.ptr ⟨L + 1, 130⟩ 0 0), some (.ptr ⟨L + 1, 322⟩ 0 0), some (.ptr ⟨L + 1, 583⟩ 0 0), some (.sl ⟨L + 1, 454⟩ 0 N), none, some (.str (X.take (1000 * i))), none, none, none, none, none, none, none, none, none, none, none, none, none, none, none, none, none, none, none, none, none, none, none, none, none, none, none, none, none, some (.sl ⟨L + 1, 454⟩ 0 N), some (.int .i64 N), some (.int .i64 i), none, none, none, none, none, none, none, none, none, none, none, none, none, none, none, none, none, none, none, none, none, none, none, none, none, none, none, none, none, none, none, none, none, none, none, none, none, none, none, none, none, none, none, none, none, none, none, none, none, none, none, none, none, none, none, none, none, none, none, none, none, none, none, none, none, none, none, none, none, none, none, none, none, none, none, none, none, none, none, none, none, none, none, none, none, none, none, none, none, none, none, none, none, none, none, none, none, none, none, none, none, none, none, none, none, none, none, none, none, none, none, none, none],
    [(⟨L + 1, 128⟩, .rows 3 1 false true (out.map eI)), (⟨L + 1, 129⟩, .rows 3 1 false true (inn.map eI)), (⟨L + 1, 130⟩, .rows 34 6 true false [[.sl ⟨L + 1, 128⟩ 0 out.length, .sl ⟨L + 1, 129⟩ 0 inn.length, .nilS, .int .i64 0, .int .i64 (-1), .nilS]]), (⟨L + 1, 322⟩, .rows 37 4 true true [[.int .i64 S, .int .i64 P, .bool lo, .str X]]),
     (⟨L + 1, 450⟩, .rows 3 1 true true (out2.map eI)), (⟨L + 1, 451⟩, .rows 3 1 true true (inn.map eI)), (⟨L + 1, 454⟩, .rows 43 8 true true R), (⟨L + 1, 583⟩, .rows 34 6 true false [[.sl ⟨L + 1, 450⟩ 0 out.length, .sl ⟨L + 1, 451⟩ 0 inn.length, .sl ⟨L + 1, 452⟩ 0 0, .int .i64 0, .int .i64 (-1), .sl ⟨L + 1, 453⟩ 0 0]])], 10000 * (i + 1)⟩) (pre := fun i => i ≤ N) (μ := fun i => N - i) 0 (by omega) ?_ ?_
  · refine Sub.of (fun n hn => hF2 n (by have : n.l = L + 1 := hn; omega)) (by simp only [go_sem, resVal, resVals, resVal1, one, Wk, WkL, WkLL, wkN, wkNL, wkNLL, UpdIn, UpdAll, BW, plainP, plainPL, subT, subH, subK, and_self, true_or, or_true, List.not_mem_nil, List.mem_cons, forall_eq, imp_self, implies_true, Nat.reduceSub, Nat.reduceAdd, Nat.reduceMul, Nat.reduceEqDiff, Nat.reduceLT, Nat.reduceLeDiff, Nat.reduceBEq, Nat.reduceBNe, reduceIte, reduceCtorEq, Int.reduceToNat, String.reduceEq, Int.natCast_zero, Nat.mul_zero]) ?_ (by simp only [go_sem, resVal, resVals, resVal1, one, Wk, WkL, WkLL, wkN, wkNL, wkNLL, UpdIn, UpdAll, BW, plainP, plainPL, subT, subH, subK, and_self, true_or, or_true, List.not_mem_nil, List.mem_cons, forall_eq, imp_self, implies_true, Nat.reduceSub, Nat.reduceAdd, Nat.reduceMul, Nat.reduceEqDiff, Nat.reduceLT, Nat.reduceLeDiff, Nat.reduceBEq, Nat.reduceBNe, reduceIte, reduceCtorEq, Int.reduceToNat, String.reduceEq]) (by simp)
    simp [subH, Tx.look]
  · intro i hi
    have hz := getD_eI out hSl
    by_cases hlt : i < N
    · have f3 : decide ((i : Int) < (N : Int)) = true := dT (by omega)
      have g0 : R.getD i [] = dRow S P (seqS out S lo) lo (i == 0) (i + 1 == N) (pieceS X i) := by rw [hR]; simp [piecesS, List.getD_eq_getElem?_getD, hlt]
      have f4 : (((i : Nat) : Int) == 0) = (i == 0) := by cases i <;> rfl
      have f5 : ((i : Int) == ((N : Int) - 1)) = (i + 1 == N) := by rw [Bool.eq_iff_iff]; simp; omega
      have f8 : decide ((S : Int) ≥ 0) = true := dT (by omega)
      by_cases hlast : i + 1 < N
      · have f6 : decide ((i : Int) < (N : Int) - 1) = true := dT (by omega)
        have f7 : (((pieceS X i).length : Int) != 1000) = false := neF (by simp [pieceS]; omega)
        have lp : (pieceS X i).length ≤ 1000 := by simp [pieceS]; omega
        have lt : (X.take (1000 * i)).length ≤ 3300 := by simp; omega
        cases lo with
        | true =>
          simp only [nB, nB', f3, f4, f5, f6, f7, g0, dRow, lR, bne_self_eq_false, List.length_map, Nat.add_zero, go_sem, Meths.get, meths, Nat.reduceSub, Nat.reduceAdd, Nat.reduceMul, Nat.reduceEqDiff, Nat.reduceLT, Nat.reduceLeDiff, Nat.reduceBEq, Nat.reduceBNe, reduceIte, reduceCtorEq, Int.reduceToNat, String.reduceEq]
          repeat refine And.intro (by first | omega | exact ⟨by omega, by omega⟩ | exact ⟨by omega, by omega, by omega⟩ | exact ⟨⟨by omega, by omega⟩, by omega, by omega⟩ | exact okDyn_num (fun x => x.i) (by kernel_rfl) | kernel_rfl | exact okDyn_num (fun _ => 0) (by kernel_rfl)) ?_
          refine ⟨i + 1, by omega, by omega, ?_⟩
          rw [takeS]
          refine Sub.of (fun n hn => hF2 n (by have : n.l = L + 1 := hn; omega)) (by simp only [go_sem, resVal, resVals, resVal1, one, Wk, WkL, WkLL, wkN, wkNL, wkNLL, UpdIn, UpdAll, BW, plainP, plainPL, subT, subH, subK, and_self, true_or, or_true, List.not_mem_nil, List.mem_cons, forall_eq, imp_self, implies_true, Nat.reduceSub, Nat.reduceAdd, Nat.reduceMul, Nat.reduceEqDiff, Nat.reduceLT, Nat.reduceLeDiff, Nat.reduceBEq, Nat.reduceBNe, reduceIte, reduceCtorEq, Int.reduceToNat, String.reduceEq, Int.natCast_succ]) ?_ (by simp only [go_sem, resVal, resVals, resVal1, one, Wk, WkL, WkLL, wkN, wkNL, wkNLL, UpdIn, UpdAll, BW, plainP, plainPL, subT, subH, subK, and_self, true_or, or_true, List.not_mem_nil, List.mem_cons, forall_eq, imp_self, implies_true, Nat.reduceSub, Nat.reduceAdd, Nat.reduceMul, Nat.reduceEqDiff, Nat.reduceLT, Nat.reduceLeDiff, Nat.reduceBEq, Nat.reduceBNe, reduceIte, reduceCtorEq, Int.reduceToNat, String.reduceEq]) (by simp only []; omega)
          simp [subH, Tx.look]
        | false =>
          have sq : seqS out S false = out.getD S 0 := rfl
          simp only [nB, nB', f3, f4, f5, f6, f7, g0, dRow, lR, sq, hz, eI, Int.toNat_natCast, bne_self_eq_false, List.length_map, Nat.add_zero, go_sem, Meths.get, meths, Nat.reduceSub, Nat.reduceAdd, Nat.reduceMul, Nat.reduceEqDiff, Nat.reduceLT, Nat.reduceLeDiff, Nat.reduceBEq, Nat.reduceBNe, reduceIte, reduceCtorEq, Int.reduceToNat, String.reduceEq]
          repeat refine And.intro (by first | omega | exact ⟨by omega, by omega⟩ | exact ⟨by omega, by omega, by omega⟩ | exact ⟨⟨by omega, by omega⟩, by omega, by omega⟩ | exact okDyn_num (fun x => x.i) (by kernel_rfl) | kernel_rfl | exact okDyn_num (fun _ => 0) (by kernel_rfl)) ?_
          refine ⟨i + 1, by omega, by omega, ?_⟩
          rw [takeS]
          refine Sub.of (fun n hn => hF2 n (by have : n.l = L + 1 := hn; omega)) (by simp only [go_sem, resVal, resVals, resVal1, one, Wk, WkL, WkLL, wkN, wkNL, wkNLL, UpdIn, UpdAll, BW, plainP, plainPL, subT, subH, subK, and_self, true_or, or_true, List.not_mem_nil, List.mem_cons, forall_eq, imp_self, implies_true, Nat.reduceSub, Nat.reduceAdd, Nat.reduceMul, Nat.reduceEqDiff, Nat.reduceLT, Nat.reduceLeDiff, Nat.reduceBEq, Nat.reduceBNe, reduceIte, reduceCtorEq, Int.reduceToNat, String.reduceEq, Int.natCast_succ]) ?_ (by simp only [go_sem, resVal, resVals, resVal1, one, Wk, WkL, WkLL, wkN, wkNL, wkNLL, UpdIn, UpdAll, BW, plainP, plainPL, subT, subH, subK, and_self, true_or, or_true, List.not_mem_nil, List.mem_cons, forall_eq, imp_self, implies_true, Nat.reduceSub, Nat.reduceAdd, Nat.reduceMul, Nat.reduceEqDiff, Nat.reduceLT, Nat.reduceLeDiff, Nat.reduceBEq, Nat.reduceBNe, reduceIte, reduceCtorEq, Int.reduceToNat, String.reduceEq]) (by simp only []; omega)
          simp [subH, Tx.look]
      · have f6 : decide ((i : Int) < (N : Int) - 1) = false := dF (by omega)
        have lp : (pieceS X i).length ≤ 1000 := by simp [pieceS]; omega
        have lt : (X.take (1000 * i)).length ≤ 3300 := by simp; omega
        cases lo with
        | true =>
          simp only [nB, nB', f3, f4, f5, f6, g0, dRow, lR, bne_self_eq_false, List.length_map, Nat.add_zero, go_sem, Meths.get, meths, Nat.reduceSub, Nat.reduceAdd, Nat.reduceMul, Nat.reduceEqDiff, Nat.reduceLT, Nat.reduceLeDiff, Nat.reduceBEq, Nat.reduceBNe, reduceIte, reduceCtorEq, Int.reduceToNat, String.reduceEq]
          repeat refine And.intro (by first | omega | exact ⟨by omega, by omega⟩ | exact ⟨by omega, by omega, by omega⟩ | exact ⟨⟨by omega, by omega⟩, by omega, by omega⟩ | exact okDyn_num (fun x => x.i) (by kernel_rfl) | kernel_rfl | exact okDyn_num (fun _ => 0) (by kernel_rfl)) ?_
          refine ⟨i + 1, by omega, by omega, ?_⟩
          rw [takeS]
          refine Sub.of (fun n hn => hF2 n (by have : n.l = L + 1 := hn; omega)) (by simp only [go_sem, resVal, resVals, resVal1, one, Wk, WkL, WkLL, wkN, wkNL, wkNLL, UpdIn, UpdAll, BW, plainP, plainPL, subT, subH, subK, and_self, true_or, or_true, List.not_mem_nil, List.mem_cons, forall_eq, imp_self, implies_true, Nat.reduceSub, Nat.reduceAdd, Nat.reduceMul, Nat.reduceEqDiff, Nat.reduceLT, Nat.reduceLeDiff, Nat.reduceBEq, Nat.reduceBNe, reduceIte, reduceCtorEq, Int.reduceToNat, String.reduceEq, Int.natCast_succ]) ?_ (by simp only [go_sem, resVal, resVals, resVal1, one, Wk, WkL, WkLL, wkN, wkNL, wkNLL, UpdIn, UpdAll, BW, plainP, plainPL, subT, subH, subK, and_self, true_or, or_true, List.not_mem_nil, List.mem_cons, forall_eq, imp_self, implies_true, Nat.reduceSub, Nat.reduceAdd, Nat.reduceMul, Nat.reduceEqDiff, Nat.reduceLT, Nat.reduceLeDiff, Nat.reduceBEq, Nat.reduceBNe, reduceIte, reduceCtorEq, Int.reduceToNat, String.reduceEq]) (by simp only []; omega)
          simp [subH, Tx.look]
        | false =>
          have sq : seqS out S false = out.getD S 0 := rfl
          simp only [nB, nB', f3, f4, f5, f6, g0, dRow, lR, sq, hz, eI, Int.toNat_natCast, bne_self_eq_false, List.length_map, Nat.add_zero, go_sem, Meths.get, meths, Nat.reduceSub, Nat.reduceAdd, Nat.reduceMul, Nat.reduceEqDiff, Nat.reduceLT, Nat.reduceLeDiff, Nat.reduceBEq, Nat.reduceBNe, reduceIte, reduceCtorEq, Int.reduceToNat, String.reduceEq]
          repeat refine And.intro (by first | omega | exact ⟨by omega, by omega⟩ | exact ⟨by omega, by omega, by omega⟩ | exact ⟨⟨by omega, by omega⟩, by omega, by omega⟩ | exact okDyn_num (fun x => x.i) (by kernel_rfl) | kernel_rfl | exact okDyn_num (fun _ => 0) (by kernel_rfl)) ?_
          refine ⟨i + 1, by omega, by omega, ?_⟩
          rw [takeS]
          refine Sub.of (fun n hn => hF2 n (by have : n.l = L + 1 := hn; omega)) (by simp only [go_sem, resVal, resVals, resVal1, one, Wk, WkL, WkLL, wkN, wkNL, wkNLL, UpdIn, UpdAll, BW, plainP, plainPL, subT, subH, subK, and_self, true_or, or_true, List.not_mem_nil, List.mem_cons, forall_eq, imp_self, implies_true, Nat.reduceSub, Nat.reduceAdd, Nat.reduceMul, Nat.reduceEqDiff, Nat.reduceLT, Nat.reduceLeDiff, Nat.reduceBEq, Nat.reduceBNe, reduceIte, reduceCtorEq, Int.reduceToNat, String.reduceEq, Int.natCast_succ]) ?_ (by simp only [go_sem, resVal, resVals, resVal1, one, Wk, WkL, WkLL, wkN, wkNL, wkNLL, UpdIn, UpdAll, BW, plainP, plainPL, subT, subH, subK, and_self, true_or, or_true, List.not_mem_nil, List.mem_cons, forall_eq, imp_self, implies_true, Nat.reduceSub, Nat.reduceAdd, Nat.reduceMul, Nat.reduceEqDiff, Nat.reduceLT, Nat.reduceLeDiff, Nat.reduceBEq, Nat.reduceBNe, reduceIte, reduceCtorEq, Int.reduceToNat, String.reduceEq]) (by simp only []; omega)
          simp [subH, Tx.look]
    · have f3 : decide ((i : Int) < (N : Int)) = false := dF (by omega)
      have e : i = N := by omega
      subst e
      have hX2 : X.take (1000 * i) = X := List.take_of_length_le (by omega)
      simp only [f3, hX2, Nat.add_zero, go_sem, Meths.get, meths, Nat.reduceSub, Nat.reduceAdd, Nat.reduceMul, Nat.reduceEqDiff, Nat.reduceLT, Nat.reduceLeDiff, Nat.reduceBEq, Nat.reduceBNe, reduceIte, reduceCtorEq, Int.reduceToNat, String.reduceEq]
      refine CallVC.gen (args2 := [.fs 1 (out.map eI)]) (by simp [Wk, WkL, List.take_of_length_le]) (cloneI_ok out (by omega)) ?_
      cases lo with
      | true =>
        have eo : out2 = out := by rw [hout2]; rfl
        subst eo
        simp only [nB, nB', wkNL, wkN, unown, f3, Nat.add_zero, go_sem, Meths.get, meths, Nat.reduceSub, Nat.reduceAdd, Nat.reduceMul, Nat.reduceEqDiff, Nat.reduceLT, Nat.reduceLeDiff, Nat.reduceBEq, Nat.reduceBNe, reduceIte, reduceCtorEq, Int.reduceToNat, String.reduceEq]
        refine CallVC.pure (args2 := [.fs 1 (out2.map eI), .fs 1 (out2.map eI)]) ?_ (ints_ok out2 out2 (by omega) (by omega)) rfl ?_
        · simp [Wk, WkL, List.take_of_length_le, nB, nB', wkN]
        simp only [beq_self_eq_true, nB, nB', wkNL, wkN, unown, f3, Nat.add_zero, go_sem, Meths.get, meths, Nat.reduceSub, Nat.reduceAdd, Nat.reduceMul, Nat.reduceEqDiff, Nat.reduceLT, Nat.reduceLeDiff, Nat.reduceBEq, Nat.reduceBNe, reduceIte, reduceCtorEq, Int.reduceToNat, String.reduceEq]
        refine CallVC.pure (args2 := [.fs 1 (inn.map eI), .fs 1 (inn.map eI)]) ?_ (ints_ok inn inn (by omega) (by omega)) rfl ?_
        · simp [Wk, WkL, List.take_of_length_le, nB, nB', wkN]
        simp only [beq_self_eq_true, nB, nB', wkNL, wkN, unown, f3, Nat.add_zero, go_sem, Meths.get, meths, Nat.reduceSub, Nat.reduceAdd, Nat.reduceMul, Nat.reduceEqDiff, Nat.reduceLT, Nat.reduceLeDiff, Nat.reduceBEq, Nat.reduceBNe, reduceIte, reduceCtorEq, Int.reduceToNat, String.reduceEq]
        exact .bool (.inr rfl) rfl rfl (by simp [UpdAll, keys])
      | false =>
        have eo : out2 = out.set S ((out.getD S 0 + 1) % 65536) := by rw [hout2]; rfl
        have lo2 : out2.length = out.length := by rw [eo]; simp
        have hb16 : Go.Sx.ibits .and .i64 (out.getD S 0 + 1) 65535 = (out.getD S 0 + 1) % 65536 := and_mask (out.getD S 0 + 1) 16 (by omega)
        have hzz := List.all_eq_true.1 hso (out.getD S 0) (by rw [List.getD_eq_getElem?_getD, List.getElem?_eq_getElem hSl]; simp)
        have e16 : (2 : Int) ^ (Int.toNat 16) = 65536 := rfl
        simp only [serB, e16, Bool.and_eq_true, decide_eq_true_eq] at hzz
        simp only [nB, nB', wkNL, wkN, unown, f3, hz, eI, hb16, set_eI, Int.toNat_natCast, List.length_map, ← eo, Nat.add_zero, go_sem, Meths.get, meths, Nat.reduceSub, Nat.reduceAdd, Nat.reduceMul, Nat.reduceEqDiff, Nat.reduceLT, Nat.reduceLeDiff, Nat.reduceBEq, Nat.reduceBNe, reduceIte, reduceCtorEq, Int.reduceToNat, String.reduceEq]
        refine ⟨by kernel_rfl, ⟨by omega, by omega⟩, hSl, ⟨by omega, by omega⟩, ⟨by omega, by omega⟩, hSl, okDyn_num (fun x => x.i % 10000) (by simp only [numF, List.map, Nat.add_assoc, Nat.reduceAdd, Nat.mul_add_mod, Nat.reduceMod]; kernel_rfl), ?_⟩
        refine CallVC.pure (args2 := [.fs 1 (out2.map eI), .fs 1 (out2.map eI)]) ?_ (ints_ok out2 out2 (by omega) (by omega)) rfl ?_
        · simp [Wk, WkL, List.take_of_length_le, nB, nB', wkN, lo2]
        simp only [beq_self_eq_true, nB, nB', wkNL, wkN, unown, f3, Nat.add_zero, go_sem, Meths.get, meths, Nat.reduceSub, Nat.reduceAdd, Nat.reduceMul, Nat.reduceEqDiff, Nat.reduceLT, Nat.reduceLeDiff, Nat.reduceBEq, Nat.reduceBNe, reduceIte, reduceCtorEq, Int.reduceToNat, String.reduceEq]
        refine CallVC.pure (args2 := [.fs 1 (inn.map eI), .fs 1 (inn.map eI)]) ?_ (ints_ok inn inn (by omega) (by omega)) rfl ?_
        · simp [Wk, WkL, List.take_of_length_le, nB, nB', wkN, lo2]
        simp only [beq_self_eq_true, nB, nB', wkNL, wkN, unown, f3, Nat.add_zero, go_sem, Meths.get, meths, Nat.reduceSub, Nat.reduceAdd, Nat.reduceMul, Nat.reduceEqDiff, Nat.reduceLT, Nat.reduceLeDiff, Nat.reduceBEq, Nat.reduceBNe, reduceIte, reduceCtorEq, Int.reduceToNat, String.reduceEq]
        exact .bool (.inr rfl) rfl rfl (by simp [UpdAll, keys])
end Go.Proofs.Ytfhhbkehlfipgaa
end
