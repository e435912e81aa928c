/- Lemmas for the walk: C30, D1, C31, C32. -/
import Derived.Test.YtfhhbkehlfipgaaCxK
section
set_option linter.unusedSimpArgs false
set_option linter.unusedVariables false
set_option linter.unnecessarySimpa false
set_option linter.unusedSectionVars false
namespace Go.Proofs.Ytfhhbkehlfipgaa
open Go.Tx
set_option maxRecDepth 100000
set_option maxHeartbeats 16000000
set_option linter.unusedSimpArgs false
set_option linter.unusedVariables false
/-! streams.Take -/
theorem nm_beq (a i j : Nat) : ((⟨a, i⟩ : Nm) == ⟨a, j⟩) = (i == j) := by rw [Bool.eq_iff_iff]; simp
/-- What Take does with a piece, in a valid state. -/
def takeG (inn : List Int) (ps : List Dat) (d : Dat) : List Int × List Dat × List Msg :=
  if ps.any (fun y => y.tsn == d.tsn) || (!d.lo && decide (lead d.sq (inn.getD d.st.toNat 0) 16 < 0)) then (inn, ps, []) else delG (ps.length + 1) inn (ps ++ [d]) []
theorem take1_ok {F : SF} {L nx : Nat} (y : Dat) (a : Nm) (ha : a.l ≤ L) (ea : TypeId) (o p : Bool) (d : Dat) (hF : F a = some (.rows ea 8 o p [d.row])) :
    Con Try.prog 80 [.agg y.row, .ptr a 0 0] F L nx nx (.bool (y.tsn == d.tsn)) [] [a] := by
  refine Con.body (cxOk (L + 1)) rfl rfl (fn := Try.f80) (c := Try.f80.body.getD .skip) (by kernel_rfl) (by rfl) (by kernel_rfl) rfl  (by simpa using ha) ?_
  intro F3 hF1 hF2
  have hF := (hF1 a (by simp)).trans hF
  have q1 := nm_out' ha
  have q2 := nm_out ha
  simp only [Dat.row] at hF
  simp only [Try.f80, cx, Dat.row, hF, q1, q2, Nat.add_zero, go_sem, Meths.get, meths, Nat.reduceSub, Nat.reduceAdd, Nat.reduceMul, Nat.reduceEqDiff, Nat.reduceLT, Nat.reduceLeDiff, Nat.reduceBEq, Nat.reduceBNe, reduceIte, reduceCtorEq, Int.reduceToNat, String.reduceEq]
  exact .bool (.inr rfl) rfl rfl (by simp [UpdAll, keys])
theorem delG_len : ∀ (k : Nat) (inn : List Int) (ps : List Dat) (out : List Msg), (delG k inn ps out).1.length = inn.length
  | 0, _, _, _ => rfl
  | k + 1, inn, ps, out => by
    rw [delG]
    split
    · rfl
    · split
      · exact delG_len k _ _ _
      · rw [delG_len k, nextI_len]
theorem deliverS_ok {F : SF} {L nx : Nat} (n m mp : Nm) (hn : n.l < L ∨ (n.l = L ∧ n.i < nx)) (hm : m.l < L ∨ (m.l = L ∧ m.i < nx)) (hnm : n ≠ m) (hpn : mp ≠ n) (hpm : mp ≠ m) (mo ma : Nm) (ol al : Nat) (num seen : Int) (hmo : mo.l ≤ L) (hma : ma.l ≤ L) (inn : List Int) (ps : List Dat) (hP : DelP inn ps)
    (hF : F n = some (.rows 106 6 true false [[.sl mo 0 ol, .sl m 0 inn.length, .sl mp 0 ps.length, .int .i64 num, .int .i64 seen, .sl ma 0 al]])) (hFm : F m = some (.rows 3 1 true true (inn.map eI))) (hFp : F mp = some (.rows 43 8 true true (ps.map Dat.row))) :
    Con Try.prog 61 [.ptr n 0 0] F L nx nx (.fs 4 ((delG ps.length inn ps []).2.2.map Msg.row)) [(mp, .rows 43 8 false true (ps.map Dat.row)), (n, .rows 106 6 true false [[.sl mo 0 ol, .sl m 0 inn.length, .fs 8 (ps.map Dat.row), .int .i64 num, .int .i64 seen, .sl ma 0 al]]), (n, .rows 106 6 true false [[.sl mo 0 ol, .sl m 0 inn.length, .fs 8 ((delG ps.length inn ps []).2.1.map Dat.row), .int .i64 num, .int .i64 seen, .sl ma 0 al]]), (m, .rows 3 1 true true ((delG ps.length inn ps []).1.map eI))] [n, mp, n, m] := by
  have e1 : wkNLL [[.sl mo 0 ol, .sl m 0 inn.length, .sl mp 0 ps.length, .int .i64 num, .int .i64 seen, .sl ma 0 al]] [[.sl mo 0 ol, .sl m 0 inn.length, .fs 8 (ps.map Dat.row), .int .i64 num, .int .i64 seen, .sl ma 0 al]] = [mp] := by simp [wkNLL, wkNL, wkN]
  have e2 : unown F [mp] = [(mp, .rows 43 8 false true (ps.map Dat.row))] := by simp [unown, hFp]
  have := Con.frz (rs1 := [[.sl mo 0 ol, .sl m 0 inn.length, .fs 8 (ps.map Dat.row), .int .i64 num, .int .i64 seen, .sl ma 0 al]]) hF (by simp [WkLL, WkL, Wk, hFp, List.take_of_length_le]) (by rw [e1]; simp [Ne.symm hpn]) (deliver_ok (F := F.upd (unown F (wkNLL [[.sl mo 0 ol, .sl m 0 inn.length, .sl mp 0 ps.length, .int .i64 num, .int .i64 seen, .sl ma 0 al]] [[.sl mo 0 ol, .sl m 0 inn.length, .fs 8 (ps.map Dat.row), .int .i64 num, .int .i64 seen, .sl ma 0 al]]) ++ [(n, .rows 106 6 true false [[.sl mo 0 ol, .sl m 0 inn.length, .fs 8 (ps.map Dat.row), .int .i64 num, .int .i64 seen, .sl ma 0 al]])])) (L := L) (nx := nx) n m hn hm hnm mo ma ol al num seen hmo hma inn ps hP (by rw [e1, e2]; simp [SF.upd, SF.set]) (by rw [e1, e2]; simp [SF.upd, SF.set, Ne.symm hnm, Ne.symm hpm, hFm]))
  rw [e1, e2] at this
  exact this
theorem take_ok {F : SF} {L nx : Nat} (out inn asked : List Int) (num seen : Int) (hS : Str0 out inn num seen asked) (ps : List Dat) (hP : PsOk inn ps) (hD : dueG inn ps = none) (d : Dat) (hd : d.ok = true) (hst : d.st < inn.length) (hlen : ps.length < 80) :
    Con Try.prog 39 [strV out inn num seen asked ps, .agg d.row] F L nx nx (.tup [strV out (takeG inn ps d).1 num seen asked (takeG inn ps d).2.1, .fs 4 ((takeG inn ps d).2.2.map Msg.row), .int .i64 0]) [] [] := by
  have hp80 := hP.len
  have ho2 := hS.o2
  have hi2 := hS.i2
  have ha2 := hS.a2
  have hbg : ∀ F L nx, Con Try.prog 41 [strV out inn num seen asked ps] F L nx (nx + 5) (.tup [.ptr ⟨L, nx⟩ 0 0, .int .i64 0]) (stU L nx out inn asked num seen ps) [] := fun F L nx => begin_ok out inn asked num seen hS ps hP hD
  simp only [strV, stU] at hbg
  have f0 : ((0 : Int) != 0) = false := rfl
  have f1 : decide ((inn.length : Int) ≤ d.st) = false := dF (by omega)
  refine Con.body (cxOk (L + 1)) rfl rfl (fn := Try.f39) (c := Try.f39.body.getD .skip) (by kernel_rfl) (by rfl) (by kernel_rfl) rfl (by simp) ?_
  intro F3 hF1 hF2
  simp only [Try.f39, cx, strV, Dat.row, Nat.add_zero, go_sem, Meths.get, meths, Nat.reduceSub, Nat.reduceAdd, Nat.reduceMul, Nat.reduceEqDiff, Nat.reduceLT, Nat.reduceLeDiff, Nat.reduceBEq, Nat.reduceBNe, reduceIte, reduceCtorEq, Int.reduceToNat, String.reduceEq]
  refine CallVC.same (hbg _ _ _) ?_
  simp only [f0, nm_beq, Nat.reduceBEq, nB, nB', nS2, nS2', Nat.add_assoc, Nat.reduceAdd, Nat.add_zero, go_sem, Meths.get, meths, Nat.reduceSub, Nat.reduceAdd, Nat.reduceMul, Nat.reduceEqDiff, Nat.reduceLT, Nat.reduceLeDiff, Nat.reduceBEq, Nat.reduceBNe, reduceIte, reduceCtorEq, Int.reduceToNat, String.reduceEq]
  refine CallVC.same (piece_ok d) ?_
  simp only [f0, hd, f1, nm_beq, Nat.reduceBEq, nB, nB', nS2, nS2', Nat.add_assoc, Nat.reduceAdd, List.length_map, Nat.add_zero, go_sem, Meths.get, meths, Nat.reduceSub, Nat.reduceAdd, Nat.reduceMul, Nat.reduceEqDiff, Nat.reduceLT, Nat.reduceLeDiff, Nat.reduceBEq, Nat.reduceBNe, reduceIte, reduceCtorEq, Int.reduceToNat, String.reduceEq]
  refine ⟨by kernel_rfl, CallVC.same (containsFuncD_ok ps 80 [] [.ptr ⟨L + 1, 32⟩ 0 0] (fun y => y.tsn == d.tsn) [⟨L + 1, 32⟩] (by simp) (by omega) (fun x hx L' nx' hL => take1_ok x ⟨L + 1, 32⟩ hL 43 true true d (by simp [Dat.row]))) ?_⟩
  have f2 : decide ((80 : Int) ≤ (ps.length : Int)) = false := dF (by omega)
  have hd0 := Dat.ok_bounds hd
  have r1 := getD_eI inn (i := d.st.toNat) (by omega)
  have hsq := serB16_at hS.i3 (k := d.st.toNat) (by omega)
  have hnd : (∀ y ∈ ps, y.tsn ≠ d.tsn) → DelP inn (ps ++ [d]) := by
    intro hne
    refine ⟨by simp; omega, ?_, ?_, ?_, hS.i3, hi2⟩
    · intro x hx
      rcases List.mem_append.1 hx with h | h
      · exact (partOk_ok (hP.all x h)).1
      · simp at h; subst h; exact hd
    · intro x hx
      rcases List.mem_append.1 hx with h | h
      · exact (partOk_ok (hP.all x h)).2.1
      · simp at h; subst h; exact hst
    · rw [List.map_append, List.nodup_append]
      refine ⟨hP.nodup, by simp, ?_⟩
      intro x hx y hy
      simp at hy; subst hy
      obtain ⟨z, hz, rfl⟩ := List.mem_map.1 hx
      exact hne z hz
  unfold takeG
  cases hc : ps.any (fun y => y.tsn == d.tsn) with
  | true =>
    simp only [Bool.true_or, if_true]
    simp only [f0, f2, nm_beq, Nat.reduceBEq, nB, nB', nS2, nS2', Nat.add_assoc, Nat.reduceAdd, List.length_map, Nat.add_zero, go_sem, Meths.get, meths, Nat.reduceSub, Nat.reduceAdd, Nat.reduceMul, Nat.reduceEqDiff, Nat.reduceLT, Nat.reduceLeDiff, Nat.reduceBEq, Nat.reduceBNe, reduceIte, reduceCtorEq, Int.reduceToNat, String.reduceEq]
    repeat refine And.intro (by first | omega | exact ⟨by omega, by omega⟩ | exact ⟨by omega, by omega, by omega⟩ | exact ⟨⟨by omega, by omega⟩, by omega, by omega⟩ | exact okDyn_num (fun x => x.i) (by kernel_rfl) | kernel_rfl | exact okDyn_num (fun _ => 0) (by kernel_rfl)) ?_
    exact PostF.of (p := True) (v0 := .tup [.agg [.sl ⟨L + 1, 193⟩ 0 out.length, .sl ⟨L + 1, 194⟩ 0 inn.length, .sl ⟨L + 1, 195⟩ 0 ps.length, .int .i64 num, .int .i64 seen, .sl ⟨L + 1, 196⟩ 0 asked.length], .nilS, .int .i64 0]) (.inr rfl) (by simp only [resVal, resVals, resVal1, one, Nat.add_zero, go_sem, Meths.get, meths, Nat.reduceSub, Nat.reduceAdd, Nat.reduceMul, Nat.reduceEqDiff, Nat.reduceLT, Nat.reduceLeDiff, Nat.reduceBEq, Nat.reduceBNe, reduceIte, reduceCtorEq, Int.reduceToNat, String.reduceEq]) trivial (by simp [Wk, WkL, Tx.look, List.take_of_length_le, nB, nB']) (by simp [wkN, wkNL]) (by simp [Tx.nf, nfl]) trivial (by simp [UpdAll, keys])
  | false =>
    have hP2 := hnd (by
      intro y hy he
      rw [List.any_eq_false] at hc
      exact hc y hy (by simp [he]))
    have e1 : ps.map Dat.row ++ [d.row] = (ps ++ [d]).map Dat.row := by simp
    have e2 : ps.length + 1 = (ps ++ [d]).length := by simp
    have hrl := delG_len (ps ++ [d]).length inn (ps ++ [d]) []
    rw [e2]
    obtain ⟨r, hr⟩ : ∃ r, r = delG (ps ++ [d]).length inn (ps ++ [d]) [] := ⟨_, rfl⟩
    rw [← hr] at hrl
    cases hlo : d.lo with
    | true =>
      simp only [Bool.not_true, Bool.false_and, Bool.or_false, Bool.false_eq_true, if_false]
      simp only [f0, f2, nm_beq, Nat.reduceBEq, nB, nB', nS2, nS2', Nat.add_assoc, Nat.reduceAdd, List.length_map, Nat.add_zero, go_sem, Meths.get, meths, Nat.reduceSub, Nat.reduceAdd, Nat.reduceMul, Nat.reduceEqDiff, Nat.reduceLT, Nat.reduceLeDiff, Nat.reduceBEq, Nat.reduceBNe, reduceIte, reduceCtorEq, Int.reduceToNat, String.reduceEq]
      repeat refine And.intro (by first | omega | exact ⟨by omega, by omega⟩ | exact ⟨by omega, by omega, by omega⟩ | exact ⟨⟨by omega, by omega⟩, by omega, by omega⟩ | exact okDyn_num (fun x => x.i) (by kernel_rfl) | kernel_rfl | exact okDyn_num (fun _ => 0) (by kernel_rfl)) ?_
      refine CallVC.same (deliverS_ok ⟨L + 1, 192⟩ ⟨L + 1, 194⟩ ⟨L + 1, 1541⟩ (.inr ⟨rfl, by simp⟩) (.inr ⟨rfl, by simp⟩) (by simp) (by simp) (by simp) ⟨L + 1, 193⟩ ⟨L + 1, 196⟩ out.length asked.length num seen (Nat.le_refl _) (Nat.le_refl _) inn (ps ++ [d]) hP2 (by simp) (by simp) (by simp [Dat.row, hlo])) ?_
      rw [← hr]
      simp only [f0, nm_beq, Nat.reduceBEq, nB, nB', nS2, nS2', Nat.add_assoc, Nat.reduceAdd, List.length_map, Nat.add_zero, go_sem, Meths.get, meths, Nat.reduceSub, Nat.reduceAdd, Nat.reduceMul, Nat.reduceEqDiff, Nat.reduceLT, Nat.reduceLeDiff, Nat.reduceBEq, Nat.reduceBNe, reduceIte, reduceCtorEq, Int.reduceToNat, String.reduceEq]
      repeat refine And.intro (by first | omega | exact ⟨by omega, by omega⟩ | exact ⟨by omega, by omega, by omega⟩ | exact ⟨⟨by omega, by omega⟩, by omega, by omega⟩ | exact okDyn_num (fun x => x.i) (by kernel_rfl) | kernel_rfl | exact okDyn_num (fun _ => 0) (by kernel_rfl)) ?_
      exact PostF.of (p := True) (v0 := .tup [.agg [.sl ⟨L + 1, 193⟩ 0 out.length, .sl ⟨L + 1, 194⟩ 0 inn.length, .fs 8 (r.2.1.map Dat.row), .int .i64 num, .int .i64 seen, .sl ⟨L + 1, 196⟩ 0 asked.length], .fs 4 (r.2.2.map Msg.row), .int .i64 0] ) (.inr rfl) (by simp only [resVal, resVals, resVal1, one, Nat.add_zero, go_sem, Meths.get, meths, Nat.reduceSub, Nat.reduceAdd, Nat.reduceMul, Nat.reduceEqDiff, Nat.reduceLT, Nat.reduceLeDiff, Nat.reduceBEq, Nat.reduceBNe, reduceIte, reduceCtorEq, Int.reduceToNat, String.reduceEq]) trivial (by simp [Wk, WkL, Tx.look, List.take_of_length_le, nB, nB', hrl]) (by simp [wkN, wkNL]) (by simp [Tx.nf, nfl]) trivial (by simp [UpdAll, keys])
    | false =>
      cases hle : decide (lead d.sq (inn.getD d.st.toNat 0) 16 < 0) with
      | true =>
        simp only [Bool.not_false, Bool.true_and, Bool.or_true, if_true]
        simp only [f0, f2, r1, eI, nm_beq, Nat.reduceBEq, nB, nB', nS2, nS2', Nat.add_assoc, Nat.reduceAdd, List.length_map, Nat.add_zero, go_sem, Meths.get, meths, Nat.reduceSub, Nat.reduceAdd, Nat.reduceMul, Nat.reduceEqDiff, Nat.reduceLT, Nat.reduceLeDiff, Nat.reduceBEq, Nat.reduceBNe, reduceIte, reduceCtorEq, Int.reduceToNat, String.reduceEq]
        repeat refine And.intro (by first | omega | exact ⟨by omega, by omega⟩ | exact ⟨by omega, by omega, by omega⟩ | exact ⟨⟨by omega, by omega⟩, by omega, by omega⟩ | exact okDyn_num (fun x => x.i) (by kernel_rfl) | kernel_rfl | exact okDyn_num (fun _ => 0) (by kernel_rfl)) ?_
        refine CallVC.same (lead16_ok d.sq (inn.getD d.st.toNat 0) hd0.2.2.2.2.1 hd0.2.2.2.2.2.1 hsq.1 hsq.2) ?_
        simp only [f0, f2, hle, r1, eI, nm_beq, Nat.reduceBEq, nB, nB', nS2, nS2', Nat.add_assoc, Nat.reduceAdd, List.length_map, Nat.add_zero, go_sem, Meths.get, meths, Nat.reduceSub, Nat.reduceAdd, Nat.reduceMul, Nat.reduceEqDiff, Nat.reduceLT, Nat.reduceLeDiff, Nat.reduceBEq, Nat.reduceBNe, reduceIte, reduceCtorEq, Int.reduceToNat, String.reduceEq]
        repeat refine And.intro (by first | omega | exact ⟨by omega, by omega⟩ | exact ⟨by omega, by omega, by omega⟩ | exact ⟨⟨by omega, by omega⟩, by omega, by omega⟩ | exact okDyn_num (fun x => x.i) (by kernel_rfl) | kernel_rfl | exact okDyn_num (fun _ => 0) (by kernel_rfl)) ?_
        exact PostF.of (p := True) (v0 := .tup [.agg [.sl ⟨L + 1, 193⟩ 0 out.length, .sl ⟨L + 1, 194⟩ 0 inn.length, .sl ⟨L + 1, 195⟩ 0 ps.length, .int .i64 num, .int .i64 seen, .sl ⟨L + 1, 196⟩ 0 asked.length], .nilS, .int .i64 0]) (.inr rfl) (by simp only [resVal, resVals, resVal1, one, Nat.add_zero, go_sem, Meths.get, meths, Nat.reduceSub, Nat.reduceAdd, Nat.reduceMul, Nat.reduceEqDiff, Nat.reduceLT, Nat.reduceLeDiff, Nat.reduceBEq, Nat.reduceBNe, reduceIte, reduceCtorEq, Int.reduceToNat, String.reduceEq]) trivial (by simp [Wk, WkL, Tx.look, List.take_of_length_le, nB, nB']) (by simp [wkN, wkNL]) (by simp [Tx.nf, nfl]) trivial (by simp [UpdAll, keys])
      | false =>
        simp only [Bool.not_false, Bool.true_and, Bool.or_false, Bool.false_eq_true, if_false]
        simp only [f0, f2, r1, eI, nm_beq, Nat.reduceBEq, nB, nB', nS2, nS2', Nat.add_assoc, Nat.reduceAdd, List.length_map, Nat.add_zero, go_sem, Meths.get, meths, Nat.reduceSub, Nat.reduceAdd, Nat.reduceMul, Nat.reduceEqDiff, Nat.reduceLT, Nat.reduceLeDiff, Nat.reduceBEq, Nat.reduceBNe, reduceIte, reduceCtorEq, Int.reduceToNat, String.reduceEq]
        repeat refine And.intro (by first | omega | exact ⟨by omega, by omega⟩ | exact ⟨by omega, by omega, by omega⟩ | exact ⟨⟨by omega, by omega⟩, by omega, by omega⟩ | exact okDyn_num (fun x => x.i) (by kernel_rfl) | kernel_rfl | exact okDyn_num (fun _ => 0) (by kernel_rfl)) ?_
        refine CallVC.same (lead16_ok d.sq (inn.getD d.st.toNat 0) hd0.2.2.2.2.1 hd0.2.2.2.2.2.1 hsq.1 hsq.2) ?_
        simp only [f0, f2, hle, r1, eI, nm_beq, Nat.reduceBEq, nB, nB', nS2, nS2', Nat.add_assoc, Nat.reduceAdd, List.length_map, Nat.add_zero, go_sem, Meths.get, meths, Nat.reduceSub, Nat.reduceAdd, Nat.reduceMul, Nat.reduceEqDiff, Nat.reduceLT, Nat.reduceLeDiff, Nat.reduceBEq, Nat.reduceBNe, reduceIte, reduceCtorEq, Int.reduceToNat, String.reduceEq]
        repeat refine And.intro (by first | omega | exact ⟨by omega, by omega⟩ | exact ⟨by omega, by omega, by omega⟩ | exact ⟨⟨by omega, by omega⟩, by omega, by omega⟩ | exact okDyn_num (fun x => x.i) (by kernel_rfl) | kernel_rfl | exact okDyn_num (fun _ => 0) (by kernel_rfl)) ?_
        refine CallVC.same (deliverS_ok ⟨L + 1, 192⟩ ⟨L + 1, 194⟩ ⟨L + 1, 1829⟩ (.inr ⟨rfl, by simp⟩) (.inr ⟨rfl, by simp⟩) (by simp) (by simp) (by simp) ⟨L + 1, 193⟩ ⟨L + 1, 196⟩ out.length asked.length num seen (Nat.le_refl _) (Nat.le_refl _) inn (ps ++ [d]) hP2 (by simp) (by simp) (by simp [Dat.row, hlo])) ?_
        rw [← hr]
        simp only [f0, nm_beq, Nat.reduceBEq, nB, nB', nS2, nS2', Nat.add_assoc, Nat.reduceAdd, List.length_map, Nat.add_zero, go_sem, Meths.get, meths, Nat.reduceSub, Nat.reduceAdd, Nat.reduceMul, Nat.reduceEqDiff, Nat.reduceLT, Nat.reduceLeDiff, Nat.reduceBEq, Nat.reduceBNe, reduceIte, reduceCtorEq, Int.reduceToNat, String.reduceEq]
        repeat refine And.intro (by first | omega | exact ⟨by omega, by omega⟩ | exact ⟨by omega, by omega, by omega⟩ | exact ⟨⟨by omega, by omega⟩, by omega, by omega⟩ | exact okDyn_num (fun x => x.i) (by kernel_rfl) | kernel_rfl | exact okDyn_num (fun _ => 0) (by kernel_rfl)) ?_
        exact PostF.of (p := True) (v0 := .tup [.agg [.sl ⟨L + 1, 193⟩ 0 out.length, .sl ⟨L + 1, 194⟩ 0 inn.length, .fs 8 (r.2.1.map Dat.row), .int .i64 num, .int .i64 seen, .sl ⟨L + 1, 196⟩ 0 asked.length], .fs 4 (r.2.2.map Msg.row), .int .i64 0] ) (.inr rfl) (by simp only [resVal, resVals, resVal1, one, Nat.add_zero, go_sem, Meths.get, meths, Nat.reduceSub, Nat.reduceAdd, Nat.reduceMul, Nat.reduceEqDiff, Nat.reduceLT, Nat.reduceLeDiff, Nat.reduceBEq, Nat.reduceBNe, reduceIte, reduceCtorEq, Int.reduceToNat, String.reduceEq]) trivial (by simp [Wk, WkL, Tx.look, List.take_of_length_le, nB, nB', hrl]) (by simp [wkN, wkNL]) (by simp [Tx.nf, nfl]) trivial (by simp [UpdAll, keys])
end Go.Proofs.Ytfhhbkehlfipgaa
end

section
set_option linter.unusedSimpArgs false
set_option linter.unusedVariables false
set_option linter.unnecessarySimpa false
set_option linter.unusedSectionVars false
namespace Go.Proofs.Ytfhhbkehlfipgaa
open Go.Tx
set_option maxRecDepth 100000
set_option linter.unusedSimpArgs false
set_option linter.unusedVariables false
/-! what Skip computes; states that stay valid -/
def datZ : Dat := ⟨0, 0, 0, 0, false, false, false, []⟩
def cutS (ps : List Dat) : Nat → Int → Dat → List Int → List Int
  | 0, _, _, _ => []
  | k + 1, t, b, ns =>
    match getT ps t with
    | none => []
    | some d =>
      if d.la || ns.contains t then []
      else if decide (0 < ns.length) && (d.st != b.st || d.sq != b.sq || d.lo != b.lo) then []
      else if d.fi then ns ++ [t] else cutS ps k ((t - 1) % 4294967296) d (ns ++ [t])
def cutG (ps : List Dat) (cum : Int) : List Int := cutS ps (ps.length + 1) cum datZ []
def skB (cum : Int) (kept : List Int) (d : Dat) : Bool := d.lo && decide (lead d.tsn cum 32 ≤ 0) && !kept.contains d.tsn
def skipStep (z : List Int × List Dat) (k : Int × Int) : List Int × List Dat :=
  if 0 ≤ lead k.2 (z.1.getD k.1.toNat 0) 16 then (nextI z.1 k.1 k.2, nextP z.1 z.2 k.1 k.2) else z
def skipL (inn : List Int) (ps : List Dat) (sk : List (Int × Int)) : List Int × List Dat := sk.foldl skipStep (inn, ps)
def skipP (inn : List Int) (ps : List Dat) (cum : Int) (sk : List (Int × Int)) : List Dat := withoutG (skipL inn ps sk).2 (skB cum (cutG (skipL inn ps sk).2 cum))
def skipG (inn : List Int) (ps : List Dat) (cum : Int) (sk : List (Int × Int)) : List Int × List Dat × List Msg := delG (skipP inn ps cum sk).length (skipL inn ps sk).1 (skipP inn ps cum sk) []
theorem PsOk.without {inn : List Int} {ps : List Dat} (h : PsOk inn ps) (p : Dat → Bool) : PsOk inn (withoutG ps p) where
  len := Nat.le_trans (List.length_filter_le _ _) h.len
  all := fun d hd => h.all d (List.mem_filter.1 hd).1
  nodup := List.Nodup.sublist (List.Sublist.map _ List.filter_sublist) h.nodup
theorem PsOk.next {inn : List Int} {ps : List Dat} (h : PsOk inn ps) (st sq : Int) (hst : 0 ≤ st) : PsOk (nextI inn st sq) (nextP inn ps st sq) := by
  have hw := h.without (oldB (nextI inn st sq) st)
  refine ⟨hw.len, fun d hd => ?_, hw.nodup⟩
  have hm := List.mem_filter.1 hd
  obtain ⟨a1, a2, a3⟩ := partOk_ok (h.all d hm.1)
  have hb := Dat.ok_bounds a1
  unfold partOk
  rw [a1, nextI_len]
  simp only [Bool.true_and, Bool.and_eq_true, decide_eq_true_eq, Bool.or_eq_true]
  refine ⟨a2, ?_⟩
  by_cases hs : d.st = st
  · have := hm.2
    simp only [oldB, hs, beq_self_eq_true, Bool.true_and, Bool.not_eq_true', Bool.and_eq_false_iff, Bool.not_eq_false', decide_eq_false_iff_not] at this
    rcases this with h | h
    · exact .inl h
    · right; rw [hs]; omega
  · rcases a3 with h | h
    · exact .inl h
    · right
      have : (nextI inn st sq).getD d.st.toNat 0 = inn.getD d.st.toNat 0 := by
        unfold nextI
        rw [List.getD_eq_getElem?_getD, List.getElem?_set_ne (by omega), ← List.getD_eq_getElem?_getD]
      rw [this]; exact h
theorem delG_valid : ∀ (k : Nat) (inn : List Int) (ps : List Dat) (out : List Msg), PsOk inn ps → inn.all (serB 16) = true → ps.length ≤ k →
    PsOk (delG k inn ps out).1 (delG k inn ps out).2.1 ∧ dueG (delG k inn ps out).1 (delG k inn ps out).2.1 = none ∧ (delG k inn ps out).1.all (serB 16) = true
  | 0, inn, ps, out, h, hi, hl => by
    have : ps = [] := List.length_eq_zero_iff.1 (by omega)
    subst this
    exact ⟨h, rfl, hi⟩
  | k + 1, inn, ps, out, h, hi, hl => by
    rw [delG]
    cases hd : dueG inn ps with
    | none => exact ⟨h, hd, hi⟩
    | some r =>
      obtain ⟨m, ns⟩ := r
      obtain ⟨d, hdm, hc, hdq⟩ := due_spec hd
      obtain ⟨e1, e2, e3, e4⟩ := complete_spec hc
      have hwl : (withoutG ps fun d => ns.contains d.tsn).length < ps.length := without_len hdm (by simpa using e4)
      have h2 := h.without fun d => ns.contains d.tsn
      simp only
      split
      · exact delG_valid k _ _ _ h2 hi (by omega)
      · have hb := Dat.ok_bounds (partOk_ok (h.all d hdm)).1
        refine delG_valid k _ _ _ (h2.next _ _ (by omega)) (nextI_ser hi _ _) ?_
        have : (nextP inn (withoutG ps fun d => ns.contains d.tsn) m.st (inn.getD m.st.toNat 0)).length ≤ _ := List.length_filter_le _ _
        omega
theorem psOk_add {inn : List Int} {ps : List Dat} (h : PsOk inn ps) {d : Dat} (hl : ps.length < 80) (hd : partOk inn d = true) (hne : ps.any (fun y => y.tsn == d.tsn) = false) : PsOk inn (ps ++ [d]) where
  len := by simp; omega
  all := by
    intro x hx
    rcases List.mem_append.1 hx with h' | h'
    · exact h.all x h'
    · simp at h'; subst h'; exact hd
  nodup := by
    rw [List.map_append, List.nodup_append]
    refine ⟨h.nodup, by simp, ?_⟩
    intro x hx y hy
    simp at hy; subst hy
    obtain ⟨z, hz, rfl⟩ := List.mem_map.1 hx
    rw [List.any_eq_false] at hne
    exact fun he => hne z hz (by simp [he])
theorem takeG_valid {inn : List Int} {ps : List Dat} (h : PsOk inn ps) (hD : dueG inn ps = none) (hi : inn.all (serB 16) = true) {d : Dat} (hl : ps.length < 80) (hd : d.ok = true) (hst : d.st < inn.length) :
    PsOk (takeG inn ps d).1 (takeG inn ps d).2.1 ∧ dueG (takeG inn ps d).1 (takeG inn ps d).2.1 = none ∧ (takeG inn ps d).1.all (serB 16) = true := by
  unfold takeG
  split
  · exact ⟨h, hD, hi⟩
  · rename_i hc
    simp only [Bool.or_eq_true, Bool.and_eq_true, Bool.not_eq_true', decide_eq_true_eq, not_or, not_and] at hc
    refine delG_valid _ _ _ _ (psOk_add h hl ?_ (by simpa using hc.1)) hi (by simp)
    unfold partOk
    rw [hd]
    simp only [Bool.true_and, Bool.and_eq_true, decide_eq_true_eq, Bool.or_eq_true]
    refine ⟨hst, ?_⟩
    cases hlo : d.lo with
    | true => exact .inl rfl
    | false => right; have := hc.2 hlo; omega
theorem takeG_len (inn : List Int) (ps : List Dat) (d : Dat) : (takeG inn ps d).1.length = inn.length := by
  unfold takeG
  split
  · rfl
  · exact delG_len _ _ _ _
theorem delG_le : ∀ (k : Nat) (inn : List Int) (ps : List Dat) (out : List Msg), (delG k inn ps out).2.1.length ≤ ps.length
  | 0, _, _, _ => Nat.le_refl _
  | k + 1, inn, ps, out => by
    rw [delG]
    split
    · exact Nat.le_refl _
    · rename_i m ns _
      have h1 : (withoutG ps fun d => ns.contains d.tsn).length ≤ ps.length := List.length_filter_le _ _
      simp only
      split
      · exact Nat.le_trans (delG_le k _ _ _) h1
      · refine Nat.le_trans (delG_le k _ _ _) (Nat.le_trans ?_ h1)
        exact List.length_filter_le _ _
theorem takeG_le (inn : List Int) (ps : List Dat) (d : Dat) : (takeG inn ps d).2.1.length ≤ ps.length + 1 := by
  unfold takeG
  split
  · simp
  · refine Nat.le_trans (delG_le _ _ _ _) (by simp)
theorem Str0.inn {out inn inn2 asked : List Int} {num seen : Int} (h : Str0 out inn num seen asked) (hl : inn2.length = inn.length) (hi : inn2.all (serB 16) = true) : Str0 out inn2 num seen asked :=
  ⟨h.o1, h.o2, h.o3, by rw [hl]; exact h.i1, by rw [hl]; exact h.i2, hi, h.n, h.s, h.a, h.a2⟩
theorem skipStep_ok {z : List Int × List Dat} (h : PsOk z.1 z.2) (hi : z.1.all (serB 16) = true) (k : Int × Int) (hk : 0 ≤ k.1) : PsOk (skipStep z k).1 (skipStep z k).2 ∧ (skipStep z k).1.all (serB 16) = true ∧ (skipStep z k).1.length = z.1.length := by
  unfold skipStep
  split
  · exact ⟨h.next _ _ hk, nextI_ser hi _ _, nextI_len _ _ _⟩
  · exact ⟨h, hi, rfl⟩
theorem skipL_ok : ∀ (sk : List (Int × Int)) (z : List Int × List Dat), PsOk z.1 z.2 → z.1.all (serB 16) = true → (∀ k ∈ sk, 0 ≤ k.1) → PsOk (sk.foldl skipStep z).1 (sk.foldl skipStep z).2 ∧ (sk.foldl skipStep z).1.all (serB 16) = true ∧ (sk.foldl skipStep z).1.length = z.1.length
  | [], z, h, hi, _ => ⟨h, hi, rfl⟩
  | k :: sk, z, h, hi, hk => by
    obtain ⟨a, b, c⟩ := skipStep_ok h hi k (hk k (by simp))
    obtain ⟨a', b', c'⟩ := skipL_ok sk (skipStep z k) a b (fun q hq => hk q (by simp [hq]))
    exact ⟨a', b', c'.trans c⟩
theorem skipG_valid {inn : List Int} {ps : List Dat} (h : PsOk inn ps) (hi : inn.all (serB 16) = true) (cum : Int) (sk : List (Int × Int)) (hk : ∀ k ∈ sk, 0 ≤ k.1) :
    PsOk (skipG inn ps cum sk).1 (skipG inn ps cum sk).2.1 ∧ dueG (skipG inn ps cum sk).1 (skipG inn ps cum sk).2.1 = none ∧ (skipG inn ps cum sk).1.all (serB 16) = true ∧ (skipG inn ps cum sk).1.length = inn.length := by
  obtain ⟨a, b, c⟩ := skipL_ok sk (inn, ps) h hi hk
  obtain ⟨d1, d2, d3⟩ := delG_valid (skipP inn ps cum sk).length _ (skipP inn ps cum sk) [] (a.without (skB cum (cutG (skipL inn ps sk).2 cum))) b (Nat.le_refl _)
  exact ⟨d1, d2, d3, (delG_len _ _ _ _).trans c⟩
/-- Pieces that come, one after the other. -/
def comesG (inn : List Int) (ps : List Dat) : List Dat → List Msg → List Int × List Dat × List Msg
  | [], out => (inn, ps, out)
  | d :: l, out => comesG (takeG inn ps d).1 (takeG inn ps d).2.1 l (out ++ (takeG inn ps d).2.2)
end Go.Proofs.Ytfhhbkehlfipgaa
end

section
set_option linter.unusedSimpArgs false
set_option linter.unusedVariables false
set_option linter.unnecessarySimpa false
set_option linter.unusedSectionVars false
namespace Go.Proofs.Ytfhhbkehlfipgaa
open Go.Tx
set_option maxRecDepth 100000
set_option maxHeartbeats 16000000
set_option linter.unusedSimpArgs false
set_option linter.unusedVariables false
/-! chunk.forward.valid -/
def kE (k : Int × Int) : List PV := [.int .i64 k.1, .int .i64 k.2]
def okSk (sk : List (Int × Int)) (i : Nat) : Bool := (serB 16 (sk.getD i (0, 0)).1 && serB 16 (sk.getD i (0, 0)).2) && (i == 0 || decide ((sk.getD (i - 1) (0, 0)).1 < (sk.getD i (0, 0)).1))
def fwdV (cum : Int) (sk : List (Int × Int)) : Bool := (List.range sk.length).all (okSk sk) && (serB 32 cum && decide (sk.length ≤ 30))
def fwdP (cum : Int) (sk : List (Int × Int)) : PV := .agg [.int .i64 cum, .fs 2 (sk.map kE)]
theorem rowK {sk : List (Int × Int)} {i : Nat} (h : i < sk.length) : (sk.map kE).getD i [] = kE (sk.getD i (0, 0)) := by simp [h, List.getD_eq_getElem?_getD]
theorem forwardValid_ok {F : SF} {L nx : Nat} (cum : Int) (sk : List (Int × Int)) (hlen : sk.length ≤ 1000000) : Con Try.prog 126 [fwdP cum sk] F L nx nx (.bool (fwdV cum sk)) [] [] := by
  refine Con.body (cxOk (L + 1)) rfl rfl (fn := Try.f126) (c := Try.f126.body.getD .skip) (by kernel_rfl) (by rfl) (by kernel_rfl) rfl (by simp) ?_
  intro F3 hF1 hF2
  simp only [Try.f126, cx, fwdP, Nat.add_zero, go_sem, Meths.get, meths, Nat.reduceSub, Nat.reduceAdd, Nat.reduceMul, Nat.reduceEqDiff, Nat.reduceLT, Nat.reduceLeDiff, Nat.reduceBEq, Nat.reduceBNe, reduceIte, reduceCtorEq, Int.reduceToNat, String.reduceEq]
  refine loopK.intro _ _ (I := fun i : Nat => ⟨[none, some (.ptr ⟨L + 1, 0⟩ 0 0), none, none, none, none, none, some (.fs 2 (sk.map kE)), some (.int .i64 sk.length), some (.int .i64 i), none, none, none, none, none, none, none, none, none, none, none, none, none, none, none, none, none, none, none, none, none, none, none, none, none, none, none, none, none, none, none, none, none, none, none, none, none, none, none, none, none],
    [(⟨L + 1, 0⟩, .rows 164 2 true true [[.int .i64 cum, .fs 2 (sk.map kE)]])], 10000 * (i + 1)⟩) (pre := fun i => i ≤ sk.length ∧ ∀ j, j < i → okSk sk j = true) (μ := fun i => sk.length - i) 0 ⟨by omega, by intro j h; omega⟩ ?_ ?_
  · refine Sub.of (fun n hn => hF2 n (by have : n.l = L + 1 := hn; omega)) (by simp only [go_sem, resVal, resVals, resVal1, one, Wk, WkL, WkLL, wkN, wkNL, wkNLL, UpdIn, UpdAll, BW, plainP, plainPL, subT, subH, subK, and_self, true_or, or_true, List.not_mem_nil, List.mem_cons, forall_eq, imp_self, implies_true, Nat.reduceSub, Nat.reduceAdd, Nat.reduceMul, Nat.reduceEqDiff, Nat.reduceLT, Nat.reduceLeDiff, Nat.reduceBEq, Nat.reduceBNe, reduceIte, reduceCtorEq, Int.reduceToNat, String.reduceEq, List.length_map, Int.natCast_zero]) ?_ (by simp [subK, keys]) (by simp)
    simp [subH, Tx.look]
  · rintro i ⟨hi, hp⟩
    have no : i < sk.length → okSk sk i = false → fwdV cum sk = false := by
      intro hl h
      unfold fwdV
      rw [Bool.and_eq_false_iff]
      left
      rw [List.all_eq_false]
      exact ⟨i, by simpa using hl, by simp [h]⟩
    have yes : okSk sk i = true → ∀ j, j < i + 1 → okSk sk j = true := by
      intro h j hj
      by_cases he : j = i
      · subst he; exact h
      · exact hp j (by omega)
    by_cases hlt : i < sk.length
    · have f1 : decide ((i : Int) < (sk.length : Int)) = true := dT (by omega)
      have r0 := rowK hlt
      obtain ⟨k, hk⟩ : ∃ k, k = sk.getD i (0, 0) := ⟨_, rfl⟩
      rw [← hk] at r0
      simp only [f1, r0, kE, nm_beq, Nat.reduceBEq, nB, nB', nS2, nS2', Nat.add_assoc, Nat.reduceAdd, List.length_map, Nat.add_zero, go_sem, Meths.get, meths, Nat.reduceSub, Nat.reduceAdd, Nat.reduceMul, Nat.reduceEqDiff, Nat.reduceLT, Nat.reduceLeDiff, Nat.reduceBEq, Nat.reduceBNe, reduceIte, reduceCtorEq, Int.reduceToNat, String.reduceEq]
      repeat refine And.intro (by first | omega | exact ⟨by omega, by omega⟩ | exact ⟨by omega, by omega, by omega⟩ | exact ⟨⟨by omega, by omega⟩, by omega, by omega⟩ | exact okDyn_num (fun x => x.i) (by kernel_rfl) | kernel_rfl | exact okDyn_num (fun _ => 0) (by kernel_rfl)) ?_
      refine CallVC.pure (args2 := [_, .fs 1 ([k.1, k.2].map eI)]) ⟨rfl, by simp [Wk, eI], trivial⟩ (small_ok 16 [k.1, k.2] (by omega) (by omega) (by simp)) rfl ?_
      have h12 : [k.1, k.2].all (serB 16) = (serB 16 k.1 && serB 16 k.2) := by simp
      cases h1 : serB 16 k.1 && serB 16 k.2 with
      | false =>
        rw [no hlt (by unfold okSk; rw [← hk, h1]; rfl), h12, h1]
        simp only [f1, r0, kE, wkNL, wkN, nm_beq, Nat.reduceBEq, nB, nB', nS2, nS2', Nat.add_assoc, Nat.reduceAdd, List.length_map, Nat.add_zero, go_sem, Meths.get, meths, Nat.reduceSub, Nat.reduceAdd, Nat.reduceMul, Nat.reduceEqDiff, Nat.reduceLT, Nat.reduceLeDiff, Nat.reduceBEq, Nat.reduceBNe, reduceIte, reduceCtorEq, Int.reduceToNat, String.reduceEq]
        refine ⟨okDyn_num (fun x => x.i % 10000) (by simp only [numF, List.map, Nat.add_assoc, Nat.reduceAdd, Nat.mul_add_mod, Nat.reduceMod]; kernel_rfl), ?_⟩
        exact .bool (.inr rfl) rfl rfl (by simp [UpdAll, keys])
      | true =>
        rw [h12, h1]
        by_cases h3 : i = 0
        · have f3 : decide ((0 : Int) < (i : Int)) = false := dF (by omega)
          simp only [f1, f3, r0, kE, wkNL, wkN, nm_beq, Nat.reduceBEq, nB, nB', nS2, nS2', Nat.add_assoc, Nat.reduceAdd, List.length_map, Nat.add_zero, go_sem, Meths.get, meths, Nat.reduceSub, Nat.reduceAdd, Nat.reduceMul, Nat.reduceEqDiff, Nat.reduceLT, Nat.reduceLeDiff, Nat.reduceBEq, Nat.reduceBNe, reduceIte, reduceCtorEq, Int.reduceToNat, String.reduceEq]
          refine ⟨okDyn_num (fun x => x.i % 10000) (by simp only [numF, List.map, Nat.add_assoc, Nat.reduceAdd, Nat.mul_add_mod, Nat.reduceMod]; kernel_rfl), ⟨by omega, by omega⟩, i + 1, ⟨by omega, yes (by unfold okSk; rw [← hk, h1, h3]; rfl)⟩, by omega, ?_⟩
          refine Sub.of (fun n hn => hF2 n (by have : n.l = L + 1 := hn; omega)) (by simp only [go_sem, resVal, resVals, resVal1, one, Wk, WkL, WkLL, wkN, wkNL, wkNLL, UpdIn, UpdAll, BW, plainP, plainPL, subT, subH, subK, and_self, true_or, or_true, List.not_mem_nil, List.mem_cons, forall_eq, imp_self, implies_true, Nat.reduceSub, Nat.reduceAdd, Nat.reduceMul, Nat.reduceEqDiff, Nat.reduceLT, Nat.reduceLeDiff, Nat.reduceBEq, Nat.reduceBNe, reduceIte, reduceCtorEq, Int.reduceToNat, String.reduceEq, Int.natCast_succ]) ?_ (by simp [subK, keys]) (by simp only []; omega)
          simp [subH, Tx.look]
        · have f3 : decide ((0 : Int) < (i : Int)) = true := dT (by omega)
          have e1 : ((i : Int) - 1).toNat = i - 1 := by omega
          have r1 := rowK (sk := sk) (i := i - 1) (by omega)
          obtain ⟨k', hk'⟩ : ∃ k', k' = sk.getD (i - 1) (0, 0) := ⟨_, rfl⟩
          rw [← hk'] at r1
          have hi0 : (i == 0) = false := by simp [h3]
          cases h4 : decide (k.1 ≤ k'.1) with
          | true =>
            have h5 : decide (k'.1 < k.1) = false := dF (by simp at h4; omega)
            rw [no hlt (by unfold okSk; rw [← hk, ← hk', h1, hi0, h5]; rfl)]
            simp only [f1, f3, e1, r0, r1, h4, kE, wkNL, wkN, nm_beq, Nat.reduceBEq, nB, nB', nS2, nS2', Nat.add_assoc, Nat.reduceAdd, List.length_map, Nat.add_zero, go_sem, Meths.get, meths, Nat.reduceSub, Nat.reduceAdd, Nat.reduceMul, Nat.reduceEqDiff, Nat.reduceLT, Nat.reduceLeDiff, Nat.reduceBEq, Nat.reduceBNe, reduceIte, reduceCtorEq, Int.reduceToNat, String.reduceEq]
            repeat refine And.intro (by first | omega | exact ⟨by omega, by omega⟩ | exact ⟨by omega, by omega, by omega⟩ | exact ⟨⟨by omega, by omega⟩, by omega, by omega⟩ | exact okDyn_num (fun x => x.i) (by kernel_rfl) | kernel_rfl | exact okDyn_num (fun _ => 0) (by kernel_rfl)) ?_
            exact .bool (.inr rfl) rfl rfl (by simp [UpdAll, keys])
          | false =>
            have h5 : decide (k'.1 < k.1) = true := dT (by simp at h4; omega)
            simp only [f1, f3, e1, r0, r1, h4, kE, wkNL, wkN, nm_beq, Nat.reduceBEq, nB, nB', nS2, nS2', Nat.add_assoc, Nat.reduceAdd, List.length_map, Nat.add_zero, go_sem, Meths.get, meths, Nat.reduceSub, Nat.reduceAdd, Nat.reduceMul, Nat.reduceEqDiff, Nat.reduceLT, Nat.reduceLeDiff, Nat.reduceBEq, Nat.reduceBNe, reduceIte, reduceCtorEq, Int.reduceToNat, String.reduceEq]
            repeat refine And.intro (by first | omega | exact ⟨by omega, by omega⟩ | exact ⟨by omega, by omega, by omega⟩ | exact ⟨⟨by omega, by omega⟩, by omega, by omega⟩ | exact okDyn_num (fun x => x.i) (by kernel_rfl) | kernel_rfl | exact okDyn_num (fun _ => 0) (by kernel_rfl)) ?_
            refine ⟨i + 1, ⟨by omega, yes (by unfold okSk; rw [← hk, ← hk', h1, hi0, h5]; rfl)⟩, by omega, ?_⟩
            refine Sub.of (fun n hn => hF2 n (by have : n.l = L + 1 := hn; omega)) (by simp only [go_sem, resVal, resVals, resVal1, one, Wk, WkL, WkLL, wkN, wkNL, wkNLL, UpdIn, UpdAll, BW, plainP, plainPL, subT, subH, subK, and_self, true_or, or_true, List.not_mem_nil, List.mem_cons, forall_eq, imp_self, implies_true, Nat.reduceSub, Nat.reduceAdd, Nat.reduceMul, Nat.reduceEqDiff, Nat.reduceLT, Nat.reduceLeDiff, Nat.reduceBEq, Nat.reduceBNe, reduceIte, reduceCtorEq, Int.reduceToNat, String.reduceEq, Int.natCast_succ]) ?_ (by simp [subK, keys]) (by simp only []; omega)
            simp [subH, Tx.look]
    · have f1 : decide ((i : Int) < (sk.length : Int)) = false := dF (by omega)
      have hall : (List.range sk.length).all (okSk sk) = true := by
        rw [List.all_eq_true]
        intro j hj
        exact hp j (by have := List.mem_range.1 hj; omega)
      simp only [f1, nm_beq, Nat.reduceBEq, nB, nB', nS2, nS2', Nat.add_assoc, Nat.reduceAdd, List.length_map, Nat.add_zero, go_sem, Meths.get, meths, Nat.reduceSub, Nat.reduceAdd, Nat.reduceMul, Nat.reduceEqDiff, Nat.reduceLT, Nat.reduceLeDiff, Nat.reduceBEq, Nat.reduceBNe, reduceIte, reduceCtorEq, Int.reduceToNat, String.reduceEq]
      refine CallVC.pure (args2 := [_, .fs 1 ([cum].map eI)]) ⟨rfl, by simp [Wk, eI], trivial⟩ (small_ok 32 [cum] (by omega) (by omega) (by simp)) rfl ?_
      have h6 : [cum].all (serB 32) = serB 32 cum := by simp
      rw [h6]
      unfold fwdV
      rw [hall]
      cases h7 : serB 32 cum with
      | false =>
        simp only [h7, wkNL, wkN, nm_beq, Nat.reduceBEq, nB, nB', nS2, nS2', Nat.add_assoc, Nat.reduceAdd, List.length_map, Nat.add_zero, go_sem, Meths.get, meths, Nat.reduceSub, Nat.reduceAdd, Nat.reduceMul, Nat.reduceEqDiff, Nat.reduceLT, Nat.reduceLeDiff, Nat.reduceBEq, Nat.reduceBNe, reduceIte, reduceCtorEq, Int.reduceToNat, String.reduceEq]
        exact .bool (.inr rfl) rfl rfl (by simp [UpdAll, keys])
      | true =>
        simp only [h7, wkNL, wkN, nm_beq, Nat.reduceBEq, nB, nB', nS2, nS2', Nat.add_assoc, Nat.reduceAdd, List.length_map, Nat.add_zero, go_sem, Meths.get, meths, Nat.reduceSub, Nat.reduceAdd, Nat.reduceMul, Nat.reduceEqDiff, Nat.reduceLT, Nat.reduceLeDiff, Nat.reduceBEq, Nat.reduceBNe, reduceIte, reduceCtorEq, Int.reduceToNat, String.reduceEq]
        exact .bool (.inr rfl) rfl (by simp; omega) (by simp [UpdAll, keys])
end Go.Proofs.Ytfhhbkehlfipgaa
end

section
set_option linter.unusedSimpArgs false
set_option linter.unusedVariables false
set_option linter.unnecessarySimpa false
set_option linter.unusedSectionVars false
namespace Go.Proofs.Ytfhhbkehlfipgaa
open Go.Tx
set_option maxRecDepth 100000
set_option maxHeartbeats 16000000
set_option linter.unusedSimpArgs false
set_option linter.unusedVariables false
/-! chunk.forward.write -/
def kN (k : Nat × Nat) : Int × Int := (k.1, k.2)
def fwdT (cum : Nat) (sk : List (Nat × Nat)) : List UInt8 := putB 4 cum ++ sk.flatMap fun k => putB 2 k.1 ++ putB 2 k.2
theorem skT_len : ∀ sk : List (Nat × Nat), (sk.flatMap fun k => putB 2 k.1 ++ putB 2 k.2).length = 4 * sk.length
  | [] => rfl
  | k :: l => by
    simp only [List.flatMap_cons, List.length_append, putB_len, List.length_cons, skT_len l]; omega
theorem forwardWrite_ok {F : SF} {L nx : Nat} (n : Nm) (hn : n.l < L ∨ (n.l = L ∧ n.i < nx)) (cum : Nat) (sk : List (Nat × Nat)) (h1 : cum < 256 ^ 4) (h2 : ∀ k ∈ sk, k.1 < 256 ^ 2 ∧ k.2 < 256 ^ 2) (hlen : sk.length ≤ 30) (hb : bldF F n 181 none []) :
    Con Try.prog 127 [fwdP cum (sk.map kN), .ptr n 0 0] F L nx (nx + 1) (.tup [.int .i64 192, .int .i64 0]) (bldU n 181 ⟨L, nx⟩ (fwdT cum sk)) [n] := by
  refine Con.bodyN (cxOk (L + 1)) rfl rfl (fn := Try.f127) (c := Try.f127.body.getD .skip) (by kernel_rfl) (by rfl) (by kernel_rfl) rfl  (by simp; omega) ?_
  intro F3 hF1 hF2
  have hFb : bldF F3 n 181 none [] := ⟨rfl, hb.2.imp fun p h => (hF1 n (by simp)).trans h⟩
  have n1 : ∀ k, (n = (⟨L + 1, k⟩ : Nm)) = False := nm_out (by omega)
  have n2 : ∀ k, ((⟨L + 1, k⟩ : Nm) = n) = False := nm_out' (by omega)
  simp only [Try.f127, cx, fwdP, n1, n2, Nat.add_zero, go_sem, Meths.get, meths, Nat.reduceSub, Nat.reduceAdd, Nat.reduceMul, Nat.reduceEqDiff, Nat.reduceLT, Nat.reduceLeDiff, Nat.reduceBEq, Nat.reduceBNe, reduceIte, reduceCtorEq, Int.reduceToNat, String.reduceEq]
  have l1 : (putB 4 cum).length = 4 := putB_len _ _
  have z1 : putB 4 cum ≠ [] := by intro h; rw [h] at l1; simp at l1
  refine bput_call n (.inl (show n.l < L + 1 by omega)) none trivial [] 4 4 rfl (by omega) (by omega) [cum] (by simpa using h1) (by simp) (by simp) ⟨L + 1, 224⟩ 1 rfl (by simp [eN]) (by intro h; rw [n1] at h; exact h) (by simp) ⟨rfl, hFb.2.imp fun p h => by simp [h, n1]⟩ (putB 4 cum) (by simp) ?_
  simp only [bldD, bldU, n1, n2, nm_beq, Nat.reduceBEq, nB, nB', nS2, nS2', Nat.add_assoc, Nat.reduceAdd, List.length_map, Nat.add_zero, go_sem, Meths.get, meths, Nat.reduceSub, Nat.reduceAdd, Nat.reduceMul, Nat.reduceEqDiff, Nat.reduceLT, Nat.reduceLeDiff, Nat.reduceBEq, Nat.reduceBNe, reduceIte, reduceCtorEq, Int.reduceToNat, String.reduceEq]
  refine loopK.intro _ _ (I := fun z : Nat × Nat => ⟨[none, some (.ptr n 0 0), none, none, some (.int .i64 0), some (.int .i64 0), none, none, none, none, none, none, none, none, none, none, some (.fs 2 ((sk.map kN).map kE)), some (.int .i64 sk.length), some (.int .i64 z.1), none, none, none, none, none, none, none, none, none, none, none],
    bldU n 181 ⟨L + 1, z.2⟩ (fwdT cum (sk.take z.1)), 10000 * (z.1 + 1)⟩) (pre := fun z => z.1 ≤ sk.length ∧ z.2 < 10000 * (z.1 + 1)) (μ := fun z => sk.length - z.1) (0, 256) ⟨by simp, by simp⟩ ?_ ?_
  · refine Sub.of (fun n hn => hF2 n (by have : n.l = L + 1 := hn; omega)) (by simp only [go_sem, resVal, resVals, resVal1, one, Wk, WkL, WkLL, wkN, wkNL, wkNLL, UpdIn, UpdAll, BW, plainP, plainPL, subT, subH, subK, and_self, true_or, or_true, List.not_mem_nil, List.mem_cons, forall_eq, imp_self, implies_true, Nat.reduceSub, Nat.reduceAdd, Nat.reduceMul, Nat.reduceEqDiff, Nat.reduceLT, Nat.reduceLeDiff, Nat.reduceBEq, Nat.reduceBNe, reduceIte, reduceCtorEq, Int.reduceToNat, String.reduceEq, Int.natCast_zero]) ?_ (by simp [subK, keys, bldU]) (by simp)
    simp [subH, Tx.look, bldU, fwdT, n1, n2]
  · rintro ⟨i, q⟩ ⟨hi, hq⟩
    simp only at hi hq ⊢
    obtain ⟨t, ht⟩ : ∃ t, t = fwdT cum (sk.take i) := ⟨_, rfl⟩
    rw [← ht]
    have htl : t.length = 4 + 4 * i := by rw [ht]; unfold fwdT; rw [List.length_append, skT_len, putB_len, List.length_take]; omega
    have htz : t ≠ [] := by intro h; rw [h] at htl; simp at htl; omega
    have q1 : ∀ c, (10000 * (i + 1) + c = q) = False := fun c => by apply eq_false; omega
    have q2 : ∀ c, (q = 10000 * (i + 1) + c) = False := fun c => by apply eq_false; omega
    by_cases hlt : i < sk.length
    · have f1 : decide ((i : Int) < (sk.length : Int)) = true := dT (by omega)
      have r0 := rowK (sk := sk.map kN) (i := i) (by simpa using hlt)
      obtain ⟨k, hk⟩ : ∃ k, k = sk[i] := ⟨_, rfl⟩
      have e0 : (sk.map kN).getD i (0, 0) = kN k := by rw [hk]; simp [hlt, List.getD_eq_getElem?_getD]
      rw [e0] at r0
      have hkb := h2 k (by rw [hk]; exact List.getElem_mem hlt)
      simp only [f1, r0, kE, kN, bldU, n1, n2, q1, q2, nm_beq, Nat.reduceBEq, nB, nB', nS2, nS2', Nat.add_assoc, Nat.reduceAdd, List.length_map, Nat.add_zero, go_sem, Meths.get, meths, Nat.reduceSub, Nat.reduceAdd, Nat.reduceMul, Nat.reduceEqDiff, Nat.reduceLT, Nat.reduceLeDiff, Nat.reduceBEq, Nat.reduceBNe, reduceIte, reduceCtorEq, Int.reduceToNat, String.reduceEq]
      repeat refine And.intro (by first | omega | exact ⟨by omega, by omega⟩ | exact ⟨by omega, by omega, by omega⟩ | exact ⟨⟨by omega, by omega⟩, by omega, by omega⟩ | exact okDyn_num (fun x => x.i) (by kernel_rfl) | kernel_rfl | exact okDyn_num (fun _ => 0) (by kernel_rfl)) ?_
      have ht2 : t ++ (putB 2 k.1 ++ putB 2 k.2) = fwdT cum (sk.take (i + 1)) := by
        rw [ht]; unfold fwdT
        rw [List.take_succ_eq_append_getElem hlt, List.flatMap_append, ← hk, ← List.append_assoc]; simp
      refine bput_call n (.inl (show n.l < L + 1 by omega)) (some ⟨L + 1, q⟩) (.inr ⟨rfl, by simp only []; omega⟩) t 2 2 rfl (by omega) (by omega) [k.1, k.2] (by simp; exact hkb) (by simp) (by simp; omega) ⟨L + 1, 10000 * (i + 1) + 320⟩ 2 rfl (by simp [eN, n2, q1]) (by intro h; rw [n1] at h; exact h) (by simp [q2]) ⟨htz, by simp [n1], by simp [n2], by simp [n2]⟩ (fwdT cum (sk.take (i + 1))) (by rw [← ht2]; simp) ?_
      simp only [bldD, bldU, n1, n2, q1, q2, nm_beq, Nat.reduceBEq, nB, nB', nS2, nS2', Nat.add_assoc, Nat.reduceAdd, List.length_map, Nat.add_zero, go_sem, Meths.get, meths, Nat.reduceSub, Nat.reduceAdd, Nat.reduceMul, Nat.reduceEqDiff, Nat.reduceLT, Nat.reduceLeDiff, Nat.reduceBEq, Nat.reduceBNe, reduceIte, reduceCtorEq, Int.reduceToNat, String.reduceEq]
      repeat refine And.intro (by first | omega | exact ⟨by omega, by omega⟩ | exact ⟨by omega, by omega, by omega⟩ | exact ⟨⟨by omega, by omega⟩, by omega, by omega⟩ | exact okDyn_num (fun x => x.i) (by kernel_rfl) | kernel_rfl | exact okDyn_num (fun _ => 0) (by kernel_rfl)) ?_
      refine ⟨(i + 1, 10000 * (i + 1) + 352), ⟨by simp only []; omega, by simp only []; omega⟩, by simp only []; omega, ?_⟩
      refine Sub.of (fun n hn => hF2 n (by have : n.l = L + 1 := hn; omega)) (by simp only [go_sem, resVal, resVals, resVal1, one, Wk, WkL, WkLL, wkN, wkNL, wkNLL, UpdIn, UpdAll, BW, plainP, plainPL, subT, subH, subK, and_self, true_or, or_true, List.not_mem_nil, List.mem_cons, forall_eq, imp_self, implies_true, Nat.reduceSub, Nat.reduceAdd, Nat.reduceMul, Nat.reduceEqDiff, Nat.reduceLT, Nat.reduceLeDiff, Nat.reduceBEq, Nat.reduceBNe, reduceIte, reduceCtorEq, Int.reduceToNat, String.reduceEq, Int.natCast_succ]) ?_ (by simp [subK, keys]) (by simp only []; omega)
      simp [subH, Tx.look, n1, n2, q1, q2]
    · have f1 : decide ((i : Int) < (sk.length : Int)) = false := dF (by omega)
      have e : i = sk.length := by omega
      subst e
      rw [List.take_of_length_le (Nat.le_refl _)] at ht
      rw [← ht]
      simp only [f1, bldU, n1, n2, nm_beq, Nat.reduceBEq, nB, nB', nS2, nS2', Nat.add_assoc, Nat.reduceAdd, List.length_map, Nat.add_zero, go_sem, Meths.get, meths, Nat.reduceSub, Nat.reduceAdd, Nat.reduceMul, Nat.reduceEqDiff, Nat.reduceLT, Nat.reduceLeDiff, Nat.reduceBEq, Nat.reduceBNe, reduceIte, reduceCtorEq, Int.reduceToNat, String.reduceEq]
      refine .now (PostN.val [q] (.inr rfl) (by simp) (p := True) (v0 := .tup [.int .i64 192, .int .i64 0]) ?_ trivial ?_ ?_ ⟨by omega, ?_, Nat.le_refl _, ?_, trivial⟩ ?_)
      · simp only [resVal, resVals, resVal1, one, Nat.add_zero, go_sem, Meths.get, meths, Nat.reduceSub, Nat.reduceAdd, Nat.reduceMul, Nat.reduceEqDiff, Nat.reduceLT, Nat.reduceLeDiff, Nat.reduceBEq, Nat.reduceBNe, reduceIte, reduceCtorEq, Int.reduceToNat, String.reduceEq]
      · simp [nmA, nmAL, Dn]
      · simp [Tx.rn, Tx.rnL]
      · rw [kp_out (hn.imp id fun h => .inl h.2)]
        exact .ren (by simp [Tx.look, n1]; rfl) (by simp [rowsNm, nmA, nmAL, Dn]; omega) (by simp [Tx.rn, Tx.rnL, sg_out (show n.l ≤ L by omega)]; simp [sg])
      · rw [kp_at0 (by simp)]
        exact .pure (by simp [Tx.look, n2])
      · simp [UpdAll, keys]
theorem meths164v : Meths.get meths 164 "tannoy/chunk.valid" = some 126 := by simp [Meths.get, meths]
theorem meths164w : Meths.get meths 164 "tannoy/chunk.write" = some 127 := by simp [Meths.get, meths]
theorem fwdV_all {cum : Int} {sk : List (Int × Int)} (h : fwdV cum sk = true) : (∀ k ∈ sk, serB 16 k.1 = true ∧ serB 16 k.2 = true) ∧ serB 32 cum = true ∧ sk.length ≤ 30 := by
  unfold fwdV at h
  simp only [Bool.and_eq_true, decide_eq_true_eq] at h
  refine ⟨fun k hk => ?_, h.2.1, h.2.2⟩
  obtain ⟨i, hi, rfl⟩ := List.getElem_of_mem hk
  have := List.all_eq_true.1 h.1 i (by simpa using hi)
  unfold okSk at this
  simp only [Bool.and_eq_true] at this
  simpa [List.getD_eq_getElem?_getD, hi] using this.1
theorem putForward_ok {F : SF} {L nx : Nat} (cum : Int) (sk : List (Int × Int)) (hlen : sk.length ≤ 1000000) : Con Try.prog 55 [fwdP cum sk] F L nx nx
      (if fwdV cum sk then .tup [.agg [.int .i64 192, .int .i64 0, .str (fwdT cum.toNat (sk.map fun k => (k.1.toNat, k.2.toNat)))], .int .i64 0] else .tup [.agg [.int .i64 0, .int .i64 0, .str []], .int .i64 320]) [] [] := by
  have hva : ∀ (F : SF) (L nx : Nat), Con Try.prog 126 [fwdP cum sk] F L nx nx (.bool (fwdV cum sk)) [] [] := fun F L nx => forwardValid_ok cum sk hlen
  cases hV : fwdV cum sk with
  | false =>
    rw [hV] at hva
    simp only [if_false, Bool.false_eq_true]
    refine Con.body (cxOk (L + 1)) rfl rfl (fn := Try.f55) (c := Try.f55.body.getD .skip) (by kernel_rfl) (by rfl) (by kernel_rfl) rfl (by simp) ?_
    intro F3 hF1 hF2
    simp only [Try.f55, cx, fwdP, Nat.add_zero, go_sem, Meths.get, meths, Nat.reduceSub, Nat.reduceAdd, Nat.reduceMul, Nat.reduceEqDiff, Nat.reduceLT, Nat.reduceLeDiff, Nat.reduceBEq, Nat.reduceBNe, reduceIte, reduceCtorEq, Int.reduceToNat, String.reduceEq]
    refine CallVC.same (putBad_ok 164 _ 126 meths164v hva) ?_
    simp only [Nat.add_zero, go_sem, Meths.get, meths, Nat.reduceSub, Nat.reduceAdd, Nat.reduceMul, Nat.reduceEqDiff, Nat.reduceLT, Nat.reduceLeDiff, Nat.reduceBEq, Nat.reduceBNe, reduceIte, reduceCtorEq, Int.reduceToNat, String.reduceEq]
    exact PostF.same (p := True) (.inr rfl) (by simp only [resVal, resVals, resVal1, one, Nat.add_zero, go_sem, Meths.get, meths, Nat.reduceSub, Nat.reduceAdd, Nat.reduceMul, Nat.reduceEqDiff, Nat.reduceLT, Nat.reduceLeDiff, Nat.reduceBEq, Nat.reduceBNe, reduceIte, reduceCtorEq, Int.reduceToNat, String.reduceEq]) trivial (by simp [Tx.nf, nfl]) (by simp [UpdAll, keys])
  | true =>
    rw [hV] at hva
    simp only [if_true]
    obtain ⟨b1, b2, b3⟩ := fwdV_all hV
    obtain ⟨e1, c1⟩ := serB_nat b2
    obtain ⟨sn, hsn⟩ : ∃ sn, sn = sk.map fun k => (k.1.toNat, k.2.toNat) := ⟨_, rfl⟩
    have hsk : sn.map kN = sk := by
      rw [hsn, List.map_map]
      conv => rhs; rw [← List.map_id sk]
      apply List.map_congr_left
      intro k hk
      obtain ⟨d1, d2⟩ := b1 k hk
      simp only [Function.comp, kN, id]
      rw [← (serB_nat d1).1, ← (serB_nat d2).1]
    have hsb : ∀ k ∈ sn, k.1 < 256 ^ 2 ∧ k.2 < 256 ^ 2 := by
      intro k hk
      rw [hsn] at hk
      obtain ⟨y, hy, rfl⟩ := List.mem_map.1 hk
      obtain ⟨d1, d2⟩ := b1 y hy
      exact ⟨(serB_nat d1).2, (serB_nat d2).2⟩
    have hsl : sn.length ≤ 30 := by rw [hsn, List.length_map]; exact b3
    rw [← hsn]
    have hw : ∀ (F : SF) (L nx : Nat) (n : Nm), (n.l < L ∨ (n.l = L ∧ n.i < nx)) → bldF F n 181 none [] → Con Try.prog 127 [fwdP cum sk, .ptr n 0 0] F L nx (nx + 1) (.tup [.int .i64 192, .int .i64 0]) (bldU n 181 ⟨L, nx⟩ (fwdT cum.toNat sn)) [n] := by
      intro F L nx n hn hb
      have := forwardWrite_ok (F := F) (L := L) (nx := nx) n hn cum.toNat sn c1 hsb hsl hb
      rw [hsk, ← e1] at this
      exact this
    refine Con.body (cxOk (L + 1)) rfl rfl (fn := Try.f55) (c := Try.f55.body.getD .skip) (by kernel_rfl) (by rfl) (by kernel_rfl) rfl (by simp) ?_
    intro F3 hF1 hF2
    simp only [Try.f55, cx, fwdP, Nat.add_zero, go_sem, Meths.get, meths, Nat.reduceSub, Nat.reduceAdd, Nat.reduceMul, Nat.reduceEqDiff, Nat.reduceLT, Nat.reduceLeDiff, Nat.reduceBEq, Nat.reduceBNe, reduceIte, reduceCtorEq, Int.reduceToNat, String.reduceEq]
    refine CallVC.same (putGood_ok 164 _ 126 127 meths164v meths164w hva 192 0 (fwdT cum.toNat sn) ?_ ?_ hw) ?_
    · intro h
      have := congrArg List.length h
      unfold fwdT at this
      simp [putB_len] at this
    · unfold fwdT
      rw [List.length_append, skT_len, putB_len]; omega
    simp only [Nat.add_zero, go_sem, Meths.get, meths, Nat.reduceSub, Nat.reduceAdd, Nat.reduceMul, Nat.reduceEqDiff, Nat.reduceLT, Nat.reduceLeDiff, Nat.reduceBEq, Nat.reduceBNe, reduceIte, reduceCtorEq, Int.reduceToNat, String.reduceEq]
    exact PostF.same (p := True) (.inr rfl) (by simp only [resVal, resVals, resVal1, one, Nat.add_zero, go_sem, Meths.get, meths, Nat.reduceSub, Nat.reduceAdd, Nat.reduceMul, Nat.reduceEqDiff, Nat.reduceLT, Nat.reduceLeDiff, Nat.reduceBEq, Nat.reduceBNe, reduceIte, reduceCtorEq, Int.reduceToNat, String.reduceEq]) trivial (by simp [Tx.nf, nfl]) (by simp [UpdAll, keys])
end Go.Proofs.Ytfhhbkehlfipgaa
end
