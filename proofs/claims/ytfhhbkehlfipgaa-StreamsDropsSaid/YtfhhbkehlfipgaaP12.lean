/- Lemmas for the walk: C30, C31, C32, D1, C33, C40, C41, C42, D3, D4, T35. -/
import Derived.Test.YtfhhbkehlfipgaaP11
import Derived.Test.YtfhhbkehlfipgaaP10
section
set_option linter.unusedSimpArgs false
set_option linter.unusedVariables false
set_option linter.unnecessarySimpa false
set_option linter.unusedSectionVars false
namespace Go.Proofs.Ytfhhbkehlfipgaa
open Go.Tx
set_option maxRecDepth 100000
set_option maxHeartbeats 16000000
set_option linter.unusedSimpArgs false
set_option linter.unusedVariables false
theorem nm_beq (a i j : Nat) : ((⟨a, i⟩ : Nm) == ⟨a, j⟩) = (i == j) := by rw [Bool.eq_iff_iff]; simp
def takeG (inn : List Int) (ps : List Dat) (d : Dat) : List Int × List Dat × List Msg :=
  if ps.any (fun y => y.tsn == d.tsn) || (!d.lo && decide (lead d.sq (inn.getD d.st.toNat 0) 16 < 0)) then (inn, ps, []) else delG (ps.length + 1) inn (ps ++ [d]) []
theorem take1_ok {F : SF} {L nx : Nat} (y : Dat) (a : Nm) (ha : a.l ≤ L) (ea : TypeId) (o p : Bool) (d : Dat) (hF : F a = some (.rows ea 8 o p [d.row])) :
    Con Try.prog 80 [.agg y.row, .ptr a 0 0] F L nx nx (.bool (y.tsn == d.tsn)) [] [a] := by
  refine Con.body (cxOk (L + 1)) rfl rfl (fn := Try.f80) (c := Try.f80.body.getD .skip) (by kernel_rfl) (by rfl) (by kernel_rfl) rfl  (by simpa using ha) ?_
  intro F3 hF1 hF2
  have hF := (hF1 a (by simp)).trans hF
  have q1 := nm_out' ha
  have q2 := nm_out ha
  simp only [Dat.row] at hF
  simp only [Try.f80, cx, Dat.row, hF, q2, Nat.add_zero, go_sem, meths, Nat.reduceSub, Nat.reduceAdd, Nat.reduceLT, Nat.reduceLeDiff, Nat.reduceBEq]
  exact .bool (.inr rfl) rfl rfl (by simp [UpdAll])
theorem delG_len : ∀ (k : Nat) (inn : List Int) (ps : List Dat) (out : List Msg), (delG k inn ps out).1.length = inn.length
  | 0, _, _, _ => rfl
  | k + 1, inn, ps, out => by
    rw [delG]
    split
    · rfl
    · split
      · exact delG_len k _ _ _
      · rw [delG_len k, nextI_len]
theorem deliverS_ok {F : SF} {L nx : Nat} (n m mp : Nm) (hn : n.l < L ∨ (n.l = L ∧ n.i < nx)) (hm : m.l < L ∨ (m.l = L ∧ m.i < nx)) (hnm : n ≠ m) (hpn : mp ≠ n) (hpm : mp ≠ m) (mo ma : Nm) (ol al : Nat) (num seen : Int) (hmo : mo.l ≤ L) (hma : ma.l ≤ L) (inn : List Int) (ps : List Dat) (hP : DelP inn ps)
    (hF : F n = some (.rows 106 6 true false [[.sl mo 0 ol, .sl m 0 inn.length, .sl mp 0 ps.length, .int .i64 num, .int .i64 seen, .sl ma 0 al]])) (hFm : F m = some (.rows 3 1 true true (inn.map eI))) (hFp : F mp = some (.rows 43 8 true true (ps.map Dat.row))) :
    Con Try.prog 61 [.ptr n 0 0] F L nx nx (.fs 4 ((delG ps.length inn ps []).2.2.map Msg.row)) [(mp, .rows 43 8 false true (ps.map Dat.row)), (n, .rows 106 6 true false [[.sl mo 0 ol, .sl m 0 inn.length, .fs 8 (ps.map Dat.row), .int .i64 num, .int .i64 seen, .sl ma 0 al]]), (n, .rows 106 6 true false [[.sl mo 0 ol, .sl m 0 inn.length, .fs 8 ((delG ps.length inn ps []).2.1.map Dat.row), .int .i64 num, .int .i64 seen, .sl ma 0 al]]), (m, .rows 3 1 true true ((delG ps.length inn ps []).1.map eI))] [n, mp, n, m] := by
  have e1 : wkNLL [[.sl mo 0 ol, .sl m 0 inn.length, .sl mp 0 ps.length, .int .i64 num, .int .i64 seen, .sl ma 0 al]] [[.sl mo 0 ol, .sl m 0 inn.length, .fs 8 (ps.map Dat.row), .int .i64 num, .int .i64 seen, .sl ma 0 al]] = [mp] := by simp [wkNLL, wkNL, wkN]
  have e2 : unown F [mp] = [(mp, .rows 43 8 false true (ps.map Dat.row))] := by simp [unown, hFp]
  have := Con.frz (rs1 := [[.sl mo 0 ol, .sl m 0 inn.length, .fs 8 (ps.map Dat.row), .int .i64 num, .int .i64 seen, .sl ma 0 al]]) hF (by simp [WkLL, WkL, Wk, hFp, List.take_of_length_le]) (by rw [e1]; simp [Ne.symm hpn]) (deliver_ok (F := F.upd (unown F (wkNLL [[.sl mo 0 ol, .sl m 0 inn.length, .sl mp 0 ps.length, .int .i64 num, .int .i64 seen, .sl ma 0 al]] [[.sl mo 0 ol, .sl m 0 inn.length, .fs 8 (ps.map Dat.row), .int .i64 num, .int .i64 seen, .sl ma 0 al]]) ++ [(n, .rows 106 6 true false [[.sl mo 0 ol, .sl m 0 inn.length, .fs 8 (ps.map Dat.row), .int .i64 num, .int .i64 seen, .sl ma 0 al]])])) (L := L) (nx := nx) n m hn hm hnm mo ma ol al num seen hmo hma inn ps hP (by rw [e1, e2]; simp [SF.upd, SF.set]) (by rw [e1, e2]; simp [SF.upd, SF.set, Ne.symm hnm, Ne.symm hpm, hFm]))
  rw [e1, e2] at this
  exact this
theorem take_ok {F : SF} {L nx : Nat} (out inn asked : List Int) (num seen : Int) (hS : Str0 out inn num seen asked) (ps : List Dat) (hP : PsOk inn ps) (hD : dueG inn ps = none) (d : Dat) (hd : d.ok = true) (hst : d.st < inn.length) (hlen : ps.length < 80) :
    Con Try.prog 39 [strV out inn num seen asked ps, .agg d.row] F L nx nx (.tup [strV out (takeG inn ps d).1 num seen asked (takeG inn ps d).2.1, .fs 4 ((takeG inn ps d).2.2.map Msg.row), .int .i64 0]) [] [] := by
  have hp80 := hP.len
  have ho2 := hS.o2
  have hi2 := hS.i2
  have ha2 := hS.a2
  have hbg : ∀ F L nx, Con Try.prog 41 [strV out inn num seen asked ps] F L nx (nx + 5) (.tup [.ptr ⟨L, nx⟩ 0 0, .int .i64 0]) (stU L nx out inn asked num seen ps) [] := fun F L nx => begin_ok out inn asked num seen hS ps hP hD
  simp only [strV, stU] at hbg
  have f0 : ((0 : Int) != 0) = false := rfl
  have f1 : decide ((inn.length : Int) ≤ d.st) = false := dF (by omega)
  refine Con.body (cxOk (L + 1)) rfl rfl (fn := Try.f39) (c := Try.f39.body.getD .skip) (by kernel_rfl) (by rfl) (by kernel_rfl) rfl (by simp) ?_
  intro F3 hF1 hF2
  simp only [Try.f39, cx, strV, Dat.row, go_sem, meths, Nat.reduceSub, Nat.reduceAdd, Nat.reduceEqDiff, Nat.reduceLT, Nat.reduceLeDiff, Nat.reduceBEq, reduceCtorEq]
  refine CallVC.same (hbg _ _ _) ?_
  simp only [f0, Nat.reduceAdd, go_sem, Nat.reduceAdd, Nat.reduceEqDiff, Nat.reduceLT, Nat.reduceLeDiff, reduceCtorEq]
  refine CallVC.same (piece_ok d) ?_
  simp only [hd, f1, Nat.reduceBEq, Nat.reduceAdd, List.length_map, go_sem, Nat.reduceAdd, Nat.reduceEqDiff, Nat.reduceLT, Nat.reduceLeDiff, Nat.reduceBEq, reduceCtorEq]
  refine ⟨by kernel_rfl, CallVC.same (containsFuncD_ok ps 80 [] [.ptr ⟨L + 1, 32⟩ 0 0] (fun y => y.tsn == d.tsn) [⟨L + 1, 32⟩] (by simp) (by omega) (fun x hx L' nx' hL => take1_ok x ⟨L + 1, 32⟩ hL 43 true true d (by simp [Dat.row]))) ?_⟩
  have f2 : decide ((80 : Int) ≤ (ps.length : Int)) = false := dF (by omega)
  have hd0 := Dat.ok_bounds hd
  have r1 := getD_eI inn (i := d.st.toNat) (by omega)
  have hsq := serB16_at hS.i3 (k := d.st.toNat) (by omega)
  have hnd : (∀ y ∈ ps, y.tsn ≠ d.tsn) → DelP inn (ps ++ [d]) := by
    intro hne
    refine ⟨by simp; omega, ?_, ?_, ?_, hS.i3, hi2⟩
    · intro x hx
      rcases List.mem_append.1 hx with h | h
      · exact (partOk_ok (hP.all x h)).1
      · simp at h; subst h; exact hd
    · intro x hx
      rcases List.mem_append.1 hx with h | h
      · exact (partOk_ok (hP.all x h)).2.1
      · simp at h; subst h; exact hst
    · rw [List.map_append, List.nodup_append]
      refine ⟨hP.nodup, by simp, ?_⟩
      intro x hx y hy
      simp at hy; subst hy
      obtain ⟨z, hz, rfl⟩ := List.mem_map.1 hx
      exact hne z hz
  unfold takeG
  cases hc : ps.any (fun y => y.tsn == d.tsn) with
  | true =>
    simp only [Bool.true_or, if_true]
    simp only [Nat.reduceBEq, Nat.reduceAdd, Nat.add_zero, go_sem, Nat.reduceAdd, Nat.reduceEqDiff, Nat.reduceLT, Nat.reduceLeDiff, Nat.reduceBEq, reduceCtorEq]
    repeat refine And.intro (by first | omega | exact ⟨by omega, by omega⟩ | exact ⟨by omega, by omega, by omega⟩ | exact ⟨⟨by omega, by omega⟩, by omega, by omega⟩ | exact okDyn_num (fun x => x.i) (by kernel_rfl) | kernel_rfl | exact okDyn_num (fun _ => 0) (by kernel_rfl)) ?_
    exact PostF.of (p := True) (v0 := .tup [.agg [.sl ⟨L + 1, 193⟩ 0 out.length, .sl ⟨L + 1, 194⟩ 0 inn.length, .sl ⟨L + 1, 195⟩ 0 ps.length, .int .i64 num, .int .i64 seen, .sl ⟨L + 1, 196⟩ 0 asked.length], .nilS, .int .i64 0]) (.inr rfl) (by simp only [resVal, resVals, resVal1, one, go_sem, Nat.reduceEqDiff, Nat.reduceLT, Nat.reduceLeDiff, reduceCtorEq]) trivial (by simp [Wk, WkL, Tx.look, List.take_of_length_le]) (by simp [wkN, wkNL]) (by simp [Tx.nf, nfl]) trivial (by simp [UpdAll, keys])
  | false =>
    have hP2 := hnd (by
      intro y hy he
      rw [List.any_eq_false] at hc
      exact hc y hy (by simp [he]))
    have e1 : ps.map Dat.row ++ [d.row] = (ps ++ [d]).map Dat.row := by simp
    have e2 : ps.length + 1 = (ps ++ [d]).length := by simp
    have hrl := delG_len (ps ++ [d]).length inn (ps ++ [d]) []
    rw [e2]
    obtain ⟨r, hr⟩ : ∃ r, r = delG (ps ++ [d]).length inn (ps ++ [d]) [] := ⟨_, rfl⟩
    rw [← hr] at hrl
    cases hlo : d.lo with
    | true =>
      simp only [Bool.not_true, Bool.false_and, Bool.or_false, Bool.false_eq_true, if_false]
      simp only [f2, nm_beq, Nat.reduceBEq, Nat.reduceAdd, List.length_map, Nat.add_zero, go_sem, Nat.reduceAdd, Nat.reduceMul, Nat.reduceEqDiff, Nat.reduceLT, Nat.reduceLeDiff, Nat.reduceBEq, reduceCtorEq]
      repeat refine And.intro (by first | omega | exact ⟨by omega, by omega⟩ | exact ⟨by omega, by omega, by omega⟩ | exact ⟨⟨by omega, by omega⟩, by omega, by omega⟩ | exact okDyn_num (fun x => x.i) (by kernel_rfl) | kernel_rfl | exact okDyn_num (fun _ => 0) (by kernel_rfl)) ?_
      refine CallVC.same (deliverS_ok ⟨L + 1, 192⟩ ⟨L + 1, 194⟩ ⟨L + 1, 1541⟩ (.inr ⟨rfl, by simp⟩) (.inr ⟨rfl, by simp⟩) (by simp) (by simp) (by simp) ⟨L + 1, 193⟩ ⟨L + 1, 196⟩ out.length asked.length num seen (Nat.le_refl _) (Nat.le_refl _) inn (ps ++ [d]) hP2 (by simp) (by simp) (by simp [Dat.row, hlo])) ?_
      rw [← hr]
      simp only [Nat.reduceBEq, Nat.reduceAdd, Nat.add_zero, go_sem, Nat.reduceAdd, Nat.reduceEqDiff, Nat.reduceLT, Nat.reduceLeDiff, Nat.reduceBEq, reduceCtorEq]
      repeat refine And.intro (by first | omega | exact ⟨by omega, by omega⟩ | exact ⟨by omega, by omega, by omega⟩ | exact ⟨⟨by omega, by omega⟩, by omega, by omega⟩ | exact okDyn_num (fun x => x.i) (by kernel_rfl) | kernel_rfl | exact okDyn_num (fun _ => 0) (by kernel_rfl)) ?_
      exact PostF.of (p := True) (v0 := .tup [.agg [.sl ⟨L + 1, 193⟩ 0 out.length, .sl ⟨L + 1, 194⟩ 0 inn.length, .fs 8 (r.2.1.map Dat.row), .int .i64 num, .int .i64 seen, .sl ⟨L + 1, 196⟩ 0 asked.length], .fs 4 (r.2.2.map Msg.row), .int .i64 0] ) (.inr rfl) (by simp only [resVal, resVals, resVal1, one, go_sem, Nat.reduceEqDiff, Nat.reduceLT, Nat.reduceLeDiff, reduceCtorEq]) trivial (by simp [Wk, WkL, Tx.look, List.take_of_length_le, hrl]) (by simp [wkN, wkNL]) (by simp [Tx.nf, nfl]) trivial (by simp [UpdAll, keys])
    | false =>
      cases hle : decide (lead d.sq (inn.getD d.st.toNat 0) 16 < 0) with
      | true =>
        simp only [Bool.not_false, Bool.true_and, Bool.or_true, if_true]
        simp only [r1, eI, Nat.reduceBEq, Nat.reduceAdd, List.length_map, go_sem, Nat.reduceAdd, Nat.reduceEqDiff, Nat.reduceLT, Nat.reduceLeDiff, Nat.reduceBEq, reduceCtorEq]
        repeat refine And.intro (by first | omega | exact ⟨by omega, by omega⟩ | exact ⟨by omega, by omega, by omega⟩ | exact ⟨⟨by omega, by omega⟩, by omega, by omega⟩ | exact okDyn_num (fun x => x.i) (by kernel_rfl) | kernel_rfl | exact okDyn_num (fun _ => 0) (by kernel_rfl)) ?_
        refine CallVC.same (lead16_ok d.sq (inn.getD d.st.toNat 0) hd0.2.2.2.2.1 hd0.2.2.2.2.2.1 hsq.1 hsq.2) ?_
        simp only [hle, Nat.reduceBEq, Nat.reduceAdd, Nat.add_zero, go_sem, Nat.reduceAdd, Nat.reduceEqDiff, Nat.reduceLT, Nat.reduceLeDiff, Nat.reduceBEq, reduceCtorEq]
        repeat refine And.intro (by first | omega | exact ⟨by omega, by omega⟩ | exact ⟨by omega, by omega, by omega⟩ | exact ⟨⟨by omega, by omega⟩, by omega, by omega⟩ | exact okDyn_num (fun x => x.i) (by kernel_rfl) | kernel_rfl | exact okDyn_num (fun _ => 0) (by kernel_rfl)) ?_
        exact PostF.of (p := True) (v0 := .tup [.agg [.sl ⟨L + 1, 193⟩ 0 out.length, .sl ⟨L + 1, 194⟩ 0 inn.length, .sl ⟨L + 1, 195⟩ 0 ps.length, .int .i64 num, .int .i64 seen, .sl ⟨L + 1, 196⟩ 0 asked.length], .nilS, .int .i64 0]) (.inr rfl) (by simp only [resVal, resVals, resVal1, one, go_sem, Nat.reduceEqDiff, Nat.reduceLT, Nat.reduceLeDiff, reduceCtorEq]) trivial (by simp [Wk, WkL, Tx.look, List.take_of_length_le]) (by simp [wkN, wkNL]) (by simp [Tx.nf, nfl]) trivial (by simp [UpdAll, keys])
      | false =>
        simp only [Bool.not_false, Bool.true_and, Bool.or_false, Bool.false_eq_true, if_false]
        simp only [r1, eI, Nat.reduceBEq, Nat.reduceAdd, List.length_map, go_sem, Nat.reduceAdd, Nat.reduceEqDiff, Nat.reduceLT, Nat.reduceLeDiff, Nat.reduceBEq, reduceCtorEq]
        repeat refine And.intro (by first | omega | exact ⟨by omega, by omega⟩ | exact ⟨by omega, by omega, by omega⟩ | exact ⟨⟨by omega, by omega⟩, by omega, by omega⟩ | exact okDyn_num (fun x => x.i) (by kernel_rfl) | kernel_rfl | exact okDyn_num (fun _ => 0) (by kernel_rfl)) ?_
        refine CallVC.same (lead16_ok d.sq (inn.getD d.st.toNat 0) hd0.2.2.2.2.1 hd0.2.2.2.2.2.1 hsq.1 hsq.2) ?_
        simp only [f2, hle, nm_beq, Nat.reduceBEq, Nat.reduceAdd, List.length_map, Nat.add_zero, go_sem, Nat.reduceAdd, Nat.reduceMul, Nat.reduceEqDiff, Nat.reduceLT, Nat.reduceLeDiff, Nat.reduceBEq, reduceCtorEq]
        repeat refine And.intro (by first | omega | exact ⟨by omega, by omega⟩ | exact ⟨by omega, by omega, by omega⟩ | exact ⟨⟨by omega, by omega⟩, by omega, by omega⟩ | exact okDyn_num (fun x => x.i) (by kernel_rfl) | kernel_rfl | exact okDyn_num (fun _ => 0) (by kernel_rfl)) ?_
        refine CallVC.same (deliverS_ok ⟨L + 1, 192⟩ ⟨L + 1, 194⟩ ⟨L + 1, 1829⟩ (.inr ⟨rfl, by simp⟩) (.inr ⟨rfl, by simp⟩) (by simp) (by simp) (by simp) ⟨L + 1, 193⟩ ⟨L + 1, 196⟩ out.length asked.length num seen (Nat.le_refl _) (Nat.le_refl _) inn (ps ++ [d]) hP2 (by simp) (by simp) (by simp [Dat.row, hlo])) ?_
        rw [← hr]
        simp only [Nat.reduceBEq, Nat.reduceAdd, Nat.add_zero, go_sem, Nat.reduceAdd, Nat.reduceEqDiff, Nat.reduceLT, Nat.reduceLeDiff, Nat.reduceBEq, reduceCtorEq]
        repeat refine And.intro (by first | omega | exact ⟨by omega, by omega⟩ | exact ⟨by omega, by omega, by omega⟩ | exact ⟨⟨by omega, by omega⟩, by omega, by omega⟩ | exact okDyn_num (fun x => x.i) (by kernel_rfl) | kernel_rfl | exact okDyn_num (fun _ => 0) (by kernel_rfl)) ?_
        exact PostF.of (p := True) (v0 := .tup [.agg [.sl ⟨L + 1, 193⟩ 0 out.length, .sl ⟨L + 1, 194⟩ 0 inn.length, .fs 8 (r.2.1.map Dat.row), .int .i64 num, .int .i64 seen, .sl ⟨L + 1, 196⟩ 0 asked.length], .fs 4 (r.2.2.map Msg.row), .int .i64 0] ) (.inr rfl) (by simp only [resVal, resVals, resVal1, one, go_sem, Nat.reduceEqDiff, Nat.reduceLT, Nat.reduceLeDiff, reduceCtorEq]) trivial (by simp [Wk, WkL, Tx.look, List.take_of_length_le, hrl]) (by simp [wkN, wkNL]) (by simp [Tx.nf, nfl]) trivial (by simp [UpdAll, keys])
end Go.Proofs.Ytfhhbkehlfipgaa
end

section
set_option linter.unusedSimpArgs false
set_option linter.unusedVariables false
set_option linter.unnecessarySimpa false
set_option linter.unusedSectionVars false
namespace Go.Proofs.Ytfhhbkehlfipgaa
open Go.Tx
set_option maxRecDepth 100000
set_option maxHeartbeats 16000000
set_option linter.unusedSimpArgs false
set_option linter.unusedVariables false
def kE (k : Int × Int) : List PV := [.int .i64 k.1, .int .i64 k.2]
def okSk (sk : List (Int × Int)) (i : Nat) : Bool := (serB 16 (sk.getD i (0, 0)).1 && serB 16 (sk.getD i (0, 0)).2) && (i == 0 || decide ((sk.getD (i - 1) (0, 0)).1 < (sk.getD i (0, 0)).1))
def fwdV (cum : Int) (sk : List (Int × Int)) : Bool := (List.range sk.length).all (okSk sk) && (serB 32 cum && decide (sk.length ≤ 30))
def fwdP (cum : Int) (sk : List (Int × Int)) : PV := .agg [.int .i64 cum, .fs 2 (sk.map kE)]
theorem rowK {sk : List (Int × Int)} {i : Nat} (h : i < sk.length) : (sk.map kE).getD i [] = kE (sk.getD i (0, 0)) := by simp [h, List.getD_eq_getElem?_getD]
theorem forwardValid_ok {F : SF} {L nx : Nat} (cum : Int) (sk : List (Int × Int)) (hlen : sk.length ≤ 1000000) : Con Try.prog 126 [fwdP cum sk] F L nx nx (.bool (fwdV cum sk)) [] [] := by
  refine Con.body (cxOk (L + 1)) rfl rfl (fn := Try.f126) (c := Try.f126.body.getD .skip) (by kernel_rfl) (by rfl) (by kernel_rfl) rfl (by simp) ?_
  intro F3 hF1 hF2
  simp only [Try.f126, cx, fwdP, Nat.add_zero, go_sem, meths, Nat.reduceSub, Nat.reduceAdd, Nat.reduceLT, Nat.reduceLeDiff, Nat.reduceBEq]
  refine loopK.intro _ _ (I := fun i : Nat => ⟨[none, some (.ptr ⟨L + 1, 0⟩ 0 0), none, none, none, none, none, some (.fs 2 (sk.map kE)), some (.int .i64 sk.length), some (.int .i64 i), none, none, none, none, none, none, none, none, none, none, none, none, none, none, none, none, none, none, none, none, none, none, none, none, none, none, none, none, none, none, none, none, none, none, none, none, none, none, none, none, none],
    [(⟨L + 1, 0⟩, .rows 164 2 true true [[.int .i64 cum, .fs 2 (sk.map kE)]])], 10000 * (i + 1)⟩) (pre := fun i => i ≤ sk.length ∧ ∀ j, j < i → okSk sk j = true) (μ := fun i => sk.length - i) 0 ⟨by omega, by intro j h; omega⟩ ?_ ?_
  · refine Sub.of (fun n hn => hF2 n (by have : n.l = L + 1 := hn; omega)) (by simp only [go_sem, subT, and_self, List.length_map, Int.natCast_zero]) ?_ (by simp [subK, keys]) (by simp)
    simp [subH, Tx.look]
  · rintro i ⟨hi, hp⟩
    have no : i < sk.length → okSk sk i = false → fwdV cum sk = false := by
      intro hl h
      unfold fwdV
      rw [Bool.and_eq_false_iff]
      left
      rw [List.all_eq_false]
      exact ⟨i, by simpa using hl, by simp [h]⟩
    have yes : okSk sk i = true → ∀ j, j < i + 1 → okSk sk j = true := by
      intro h j hj
      by_cases he : j = i
      · subst he; exact h
      · exact hp j (by omega)
    by_cases hlt : i < sk.length
    · have f1 : decide ((i : Int) < (sk.length : Int)) = true := dT (by omega)
      have r0 := rowK hlt
      obtain ⟨k, hk⟩ : ∃ k, k = sk.getD i (0, 0) := ⟨_, rfl⟩
      rw [← hk] at r0
      simp only [f1, r0, kE, Nat.reduceBEq, nS2, Nat.add_assoc, Nat.reduceAdd, List.length_map, Nat.add_zero, go_sem, Nat.reduceAdd, Nat.reduceMul, Nat.reduceEqDiff, Nat.reduceLT, Nat.reduceLeDiff, Nat.reduceBEq, reduceCtorEq, Int.reduceToNat]
      repeat refine And.intro (by first | omega | exact ⟨by omega, by omega⟩ | exact ⟨by omega, by omega, by omega⟩ | exact ⟨⟨by omega, by omega⟩, by omega, by omega⟩ | exact okDyn_num (fun x => x.i) (by kernel_rfl) | kernel_rfl | exact okDyn_num (fun _ => 0) (by kernel_rfl)) ?_
      refine CallVC.pure (args2 := [_, .fs 1 ([k.1, k.2].map eI)]) ⟨rfl, by simp [Wk, eI], trivial⟩ (small_ok 16 [k.1, k.2] (by omega) (by omega) (by simp)) rfl ?_
      have h12 : [k.1, k.2].all (serB 16) = (serB 16 k.1 && serB 16 k.2) := by simp
      cases h1 : serB 16 k.1 && serB 16 k.2 with
      | false =>
        rw [no hlt (by unfold okSk; rw [← hk, h1]; rfl), h12, h1]
        simp only [wkNL, wkN, Nat.add_assoc, Nat.reduceAdd, go_sem, Nat.reduceAdd, Nat.reduceLT]
        refine ⟨okDyn_num (fun x => x.i % 10000) (by simp only [numF, List.map, Nat.mul_add_mod, Nat.reduceMod]; kernel_rfl), ?_⟩
        exact .bool (.inr rfl) rfl rfl (by simp [UpdAll])
      | true =>
        rw [h12, h1]
        by_cases h3 : i = 0
        · have f3 : decide ((0 : Int) < (i : Int)) = false := dF (by omega)
          simp only [f3, wkNL, wkN, Nat.add_assoc, Nat.reduceAdd, go_sem, Nat.reduceAdd, Nat.reduceLT]
          refine ⟨okDyn_num (fun x => x.i % 10000) (by simp only [numF, List.map, Nat.mul_add_mod, Nat.reduceMod]; kernel_rfl), ⟨by omega, by omega⟩, i + 1, ⟨by omega, yes (by unfold okSk; rw [← hk, h1, h3]; rfl)⟩, by omega, ?_⟩
          refine Sub.of (fun n hn => hF2 n (by have : n.l = L + 1 := hn; omega)) (by simp only [go_sem, subT, and_self, Int.natCast_succ]) ?_ (by simp [subK, keys]) (by simp only []; omega)
          simp [subH, Tx.look]
        · have f3 : decide ((0 : Int) < (i : Int)) = true := dT (by omega)
          have e1 : ((i : Int) - 1).toNat = i - 1 := by omega
          have r1 := rowK (sk := sk) (i := i - 1) (by omega)
          obtain ⟨k', hk'⟩ : ∃ k', k' = sk.getD (i - 1) (0, 0) := ⟨_, rfl⟩
          rw [← hk'] at r1
          have hi0 : (i == 0) = false := by simp [h3]
          cases h4 : decide (k.1 ≤ k'.1) with
          | true =>
            have h5 : decide (k'.1 < k.1) = false := dF (by simp at h4; omega)
            rw [no hlt (by unfold okSk; rw [← hk, ← hk', h1, hi0, h5]; rfl)]
            simp only [f3, e1, r1, h4, kE, wkNL, wkN, Nat.reduceBEq, nS2', Nat.add_assoc, Nat.reduceAdd, List.length_map, Nat.add_zero, go_sem, Nat.reduceAdd, Nat.reduceEqDiff, Nat.reduceLT, Nat.reduceLeDiff, Nat.reduceBEq, reduceCtorEq, Int.reduceToNat]
            repeat refine And.intro (by first | omega | exact ⟨by omega, by omega⟩ | exact ⟨by omega, by omega, by omega⟩ | exact ⟨⟨by omega, by omega⟩, by omega, by omega⟩ | exact okDyn_num (fun x => x.i) (by kernel_rfl) | kernel_rfl | exact okDyn_num (fun _ => 0) (by kernel_rfl)) ?_
            exact .bool (.inr rfl) rfl rfl (by simp [UpdAll])
          | false =>
            have h5 : decide (k'.1 < k.1) = true := dT (by simp at h4; omega)
            simp only [f3, e1, r1, h4, kE, wkNL, wkN, Nat.reduceBEq, nS2', Nat.add_assoc, Nat.reduceAdd, List.length_map, Nat.add_zero, go_sem, Nat.reduceAdd, Nat.reduceEqDiff, Nat.reduceLT, Nat.reduceLeDiff, Nat.reduceBEq, reduceCtorEq, Int.reduceToNat]
            repeat refine And.intro (by first | omega | exact ⟨by omega, by omega⟩ | exact ⟨by omega, by omega, by omega⟩ | exact ⟨⟨by omega, by omega⟩, by omega, by omega⟩ | exact okDyn_num (fun x => x.i) (by kernel_rfl) | kernel_rfl | exact okDyn_num (fun _ => 0) (by kernel_rfl)) ?_
            refine ⟨i + 1, ⟨by omega, yes (by unfold okSk; rw [← hk, ← hk', h1, hi0, h5]; rfl)⟩, by omega, ?_⟩
            refine Sub.of (fun n hn => hF2 n (by have : n.l = L + 1 := hn; omega)) (by simp only [go_sem, subT, and_self, Int.natCast_succ]) ?_ (by simp [subK, keys]) (by simp only []; omega)
            simp [subH, Tx.look]
    · have f1 : decide ((i : Int) < (sk.length : Int)) = false := dF (by omega)
      have hall : (List.range sk.length).all (okSk sk) = true := by
        rw [List.all_eq_true]
        intro j hj
        exact hp j (by have := List.mem_range.1 hj; omega)
      simp only [f1, Nat.reduceBEq, Nat.add_assoc, Nat.reduceAdd, Nat.add_zero, go_sem, Nat.reduceAdd, Nat.reduceMul, Nat.reduceLT, Nat.reduceLeDiff, Nat.reduceBEq, reduceCtorEq]
      refine CallVC.pure (args2 := [_, .fs 1 ([cum].map eI)]) ⟨rfl, by simp [Wk, eI], trivial⟩ (small_ok 32 [cum] (by omega) (by omega) (by simp)) rfl ?_
      have h6 : [cum].all (serB 32) = serB 32 cum := by simp
      rw [h6]
      unfold fwdV
      rw [hall]
      cases h7 : serB 32 cum with
      | false =>
        simp only [wkNL, wkN, Nat.add_assoc, Nat.reduceAdd, go_sem, Nat.reduceAdd]
        exact .bool (.inr rfl) rfl rfl (by simp [UpdAll])
      | true =>
        simp only [wkNL, wkN, Nat.reduceBEq, Nat.add_assoc, Nat.reduceAdd, List.length_map, Nat.add_zero, go_sem, Nat.reduceAdd, Nat.reduceLT, Nat.reduceLeDiff, Nat.reduceBEq, reduceCtorEq]
        exact .bool (.inr rfl) rfl (by simp; omega) (by simp [UpdAll])
end Go.Proofs.Ytfhhbkehlfipgaa
end

section
set_option linter.unusedSimpArgs false
set_option linter.unusedVariables false
set_option linter.unnecessarySimpa false
set_option linter.unusedSectionVars false
namespace Go.Proofs.Ytfhhbkehlfipgaa
open Go.Tx
set_option maxRecDepth 100000
set_option maxHeartbeats 16000000
set_option linter.unusedSimpArgs false
set_option linter.unusedVariables false
def kN (k : Nat × Nat) : Int × Int := (k.1, k.2)
def fwdT (cum : Nat) (sk : List (Nat × Nat)) : List UInt8 := putB 4 cum ++ sk.flatMap fun k => putB 2 k.1 ++ putB 2 k.2
theorem skT_len : ∀ sk : List (Nat × Nat), (sk.flatMap fun k => putB 2 k.1 ++ putB 2 k.2).length = 4 * sk.length
  | [] => rfl
  | k :: l => by
    simp only [List.flatMap_cons, List.length_append, putB_len, List.length_cons, skT_len l]; omega
theorem forwardWrite_ok {F : SF} {L nx : Nat} (n : Nm) (hn : n.l < L ∨ (n.l = L ∧ n.i < nx)) (cum : Nat) (sk : List (Nat × Nat)) (h1 : cum < 256 ^ 4) (h2 : ∀ k ∈ sk, k.1 < 256 ^ 2 ∧ k.2 < 256 ^ 2) (hlen : sk.length ≤ 30) (hb : bldF F n 181 none []) :
    Con Try.prog 127 [fwdP cum (sk.map kN), .ptr n 0 0] F L nx (nx + 1) (.tup [.int .i64 192, .int .i64 0]) (bldU n 181 ⟨L, nx⟩ (fwdT cum sk)) [n] := by
  refine Con.bodyN (cxOk (L + 1)) rfl rfl (fn := Try.f127) (c := Try.f127.body.getD .skip) (by kernel_rfl) (by rfl) (by kernel_rfl) rfl  (by simp; omega) ?_
  intro F3 hF1 hF2
  have hFb : bldF F3 n 181 none [] := ⟨rfl, hb.2.imp fun p h => (hF1 n (by simp)).trans h⟩
  have n1 : ∀ k, (n = (⟨L + 1, k⟩ : Nm)) = False := nm_out (by omega)
  have n2 : ∀ k, ((⟨L + 1, k⟩ : Nm) = n) = False := nm_out' (by omega)
  simp only [Try.f127, cx, fwdP, Nat.add_zero, go_sem, meths, Nat.reduceSub, Nat.reduceAdd, Nat.reduceMul, Nat.reduceLT, Nat.reduceLeDiff, Nat.reduceBEq, reduceCtorEq]
  have l1 : (putB 4 cum).length = 4 := putB_len _ _
  have z1 : putB 4 cum ≠ [] := by intro h; rw [h] at l1; simp at l1
  refine bput_call n (.inl (show n.l < L + 1 by omega)) none trivial [] 4 4 rfl (by omega) (by omega) [cum] (by simpa using h1) (by simp) (by simp) ⟨L + 1, 224⟩ 1 rfl (by simp [eN]) (by intro h; rw [n1] at h; exact h) (by simp) ⟨rfl, hFb.2.imp fun p h => by simp [h, n1]⟩ (putB 4 cum) (by simp) ?_
  simp only [bldD, bldU, n1, n2, Nat.reduceBEq, Nat.reduceAdd, List.length_map, Nat.add_zero, go_sem, Nat.reduceAdd, Nat.reduceEqDiff, Nat.reduceLT, Nat.reduceLeDiff, Nat.reduceBEq, reduceCtorEq]
  refine loopK.intro _ _ (I := fun z : Nat × Nat => ⟨[none, some (.ptr n 0 0), none, none, some (.int .i64 0), some (.int .i64 0), none, none, none, none, none, none, none, none, none, none, some (.fs 2 ((sk.map kN).map kE)), some (.int .i64 sk.length), some (.int .i64 z.1), none, none, none, none, none, none, none, none, none, none, none],
    bldU n 181 ⟨L + 1, z.2⟩ (fwdT cum (sk.take z.1)), 10000 * (z.1 + 1)⟩) (pre := fun z => z.1 ≤ sk.length ∧ z.2 < 10000 * (z.1 + 1)) (μ := fun z => sk.length - z.1) (0, 256) ⟨by simp, by simp⟩ ?_ ?_
  · refine Sub.of (fun n hn => hF2 n (by have : n.l = L + 1 := hn; omega)) (by simp only [go_sem, subT, and_self, Int.natCast_zero]) ?_ (by simp [subK, keys, bldU]) (by simp)
    simp [subH, Tx.look, bldU, fwdT, n1, n2]
  · rintro ⟨i, q⟩ ⟨hi, hq⟩
    simp only at hi hq ⊢
    obtain ⟨t, ht⟩ : ∃ t, t = fwdT cum (sk.take i) := ⟨_, rfl⟩
    rw [← ht]
    have htl : t.length = 4 + 4 * i := by rw [ht]; unfold fwdT; rw [List.length_append, skT_len, putB_len, List.length_take]; omega
    have htz : t ≠ [] := by intro h; rw [h] at htl; simp at htl; omega
    have q1 : ∀ c, (10000 * (i + 1) + c = q) = False := fun c => by apply eq_false; omega
    have q2 : ∀ c, (q = 10000 * (i + 1) + c) = False := fun c => by apply eq_false; omega
    by_cases hlt : i < sk.length
    · have f1 : decide ((i : Int) < (sk.length : Int)) = true := dT (by omega)
      have r0 := rowK (sk := sk.map kN) (i := i) (by simpa using hlt)
      obtain ⟨k, hk⟩ : ∃ k, k = sk[i] := ⟨_, rfl⟩
      have e0 : (sk.map kN).getD i (0, 0) = kN k := by rw [hk]; simp [hlt, List.getD_eq_getElem?_getD]
      rw [e0] at r0
      have hkb := h2 k (by rw [hk]; exact List.getElem_mem hlt)
      simp only [f1, r0, kE, kN, bldU, n2, q1, Nat.reduceBEq, nS2, Nat.add_assoc, Nat.reduceAdd, List.length_map, Nat.add_zero, go_sem, Nat.reduceAdd, Nat.reduceMul, Nat.reduceEqDiff, Nat.reduceLT, Nat.reduceLeDiff, Nat.reduceBEq, Int.reduceToNat]
      repeat refine And.intro (by first | omega | exact ⟨by omega, by omega⟩ | exact ⟨by omega, by omega, by omega⟩ | exact ⟨⟨by omega, by omega⟩, by omega, by omega⟩ | exact okDyn_num (fun x => x.i) (by kernel_rfl) | kernel_rfl | exact okDyn_num (fun _ => 0) (by kernel_rfl)) ?_
      have ht2 : t ++ (putB 2 k.1 ++ putB 2 k.2) = fwdT cum (sk.take (i + 1)) := by
        rw [ht]; unfold fwdT
        rw [List.take_succ_eq_append_getElem hlt, List.flatMap_append, ← hk, ← List.append_assoc]; simp
      refine bput_call n (.inl (show n.l < L + 1 by omega)) (some ⟨L + 1, q⟩) (.inr ⟨rfl, by simp only []; omega⟩) t 2 2 rfl (by omega) (by omega) [k.1, k.2] (by simp; exact hkb) (by simp) (by simp; omega) ⟨L + 1, 10000 * (i + 1) + 320⟩ 2 rfl (by simp [eN, n2, q1]) (by intro h; rw [n1] at h; exact h) (by simp [q2]) ⟨htz, by simp [n1], by simp [n2], by simp [n2]⟩ (fwdT cum (sk.take (i + 1))) (by rw [← ht2]; simp) ?_
      simp only [bldD, bldU, n1, n2, q1, q2, nS2, Nat.add_assoc, Nat.reduceAdd, go_sem, Nat.reduceAdd, Nat.reduceEqDiff, Nat.reduceLT]
      repeat refine And.intro (by first | omega | exact ⟨by omega, by omega⟩ | exact ⟨by omega, by omega, by omega⟩ | exact ⟨⟨by omega, by omega⟩, by omega, by omega⟩ | exact okDyn_num (fun x => x.i) (by kernel_rfl) | kernel_rfl | exact okDyn_num (fun _ => 0) (by kernel_rfl)) ?_
      refine ⟨(i + 1, 10000 * (i + 1) + 352), ⟨by simp only []; omega, by simp only []; omega⟩, by simp only []; omega, ?_⟩
      refine Sub.of (fun n hn => hF2 n (by have : n.l = L + 1 := hn; omega)) (by simp only [go_sem, subT, and_self, Int.natCast_succ]) ?_ (by simp [subK, keys]) (by simp only []; omega)
      simp [subH, Tx.look, n2, q1]
    · have f1 : decide ((i : Int) < (sk.length : Int)) = false := dF (by omega)
      have e : i = sk.length := by omega
      subst e
      rw [List.take_of_length_le (Nat.le_refl _)] at ht
      rw [← ht]
      simp only [f1, bldU, Nat.add_assoc, Nat.reduceAdd, go_sem, Nat.reduceAdd, Nat.reduceLT]
      refine .now (PostN.val [q] (.inr rfl) (by simp) (p := True) (v0 := .tup [.int .i64 192, .int .i64 0]) ?_ trivial ?_ ?_ ⟨by omega, ?_, Nat.le_refl _, ?_, trivial⟩ ?_)
      · simp only [resVal, resVals, resVal1, one, go_sem]
      · simp [nmA, nmAL]
      · simp [Tx.rn, Tx.rnL]
      · rw [kp_out (hn.imp id fun h => .inl h.2)]
        exact .ren (by simp [Tx.look]; rfl) (by simp [rowsNm, nmA, nmAL, Dn]; omega) (by simp [Tx.rn, Tx.rnL, sg_out (show n.l ≤ L by omega)]; simp [sg])
      · rw [kp_at0 (by simp)]
        exact .pure (by simp [Tx.look, n2])
      · simp [UpdAll, keys]
theorem meths164v : Meths.get meths 164 "tannoy/chunk.valid" = some 126 := by simp [Meths.get, meths]
theorem meths164w : Meths.get meths 164 "tannoy/chunk.write" = some 127 := by simp [Meths.get, meths]
theorem fwdV_all {cum : Int} {sk : List (Int × Int)} (h : fwdV cum sk = true) : (∀ k ∈ sk, serB 16 k.1 = true ∧ serB 16 k.2 = true) ∧ serB 32 cum = true ∧ sk.length ≤ 30 := by
  unfold fwdV at h
  simp only [Bool.and_eq_true, decide_eq_true_eq] at h
  refine ⟨fun k hk => ?_, h.2.1, h.2.2⟩
  obtain ⟨i, hi, rfl⟩ := List.getElem_of_mem hk
  have := List.all_eq_true.1 h.1 i (by simpa using hi)
  unfold okSk at this
  simp only [Bool.and_eq_true] at this
  simpa [List.getD_eq_getElem?_getD, hi] using this.1
theorem putForward_ok {F : SF} {L nx : Nat} (cum : Int) (sk : List (Int × Int)) (hlen : sk.length ≤ 1000000) : Con Try.prog 55 [fwdP cum sk] F L nx nx
      (if fwdV cum sk then .tup [.agg [.int .i64 192, .int .i64 0, .str (fwdT cum.toNat (sk.map fun k => (k.1.toNat, k.2.toNat)))], .int .i64 0] else .tup [.agg [.int .i64 0, .int .i64 0, .str []], .int .i64 320]) [] [] := by
  have hva : ∀ (F : SF) (L nx : Nat), Con Try.prog 126 [fwdP cum sk] F L nx nx (.bool (fwdV cum sk)) [] [] := fun F L nx => forwardValid_ok cum sk hlen
  cases hV : fwdV cum sk with
  | false =>
    rw [hV] at hva
    simp only [if_false, Bool.false_eq_true]
    refine Con.body (cxOk (L + 1)) rfl rfl (fn := Try.f55) (c := Try.f55.body.getD .skip) (by kernel_rfl) (by rfl) (by kernel_rfl) rfl (by simp) ?_
    intro F3 hF1 hF2
    simp only [Try.f55, cx, fwdP, go_sem, meths, Nat.reduceSub, Nat.reduceAdd, Nat.reduceLT, Nat.reduceLeDiff, Nat.reduceBEq, reduceCtorEq]
    refine CallVC.same (putBad_ok 164 _ 126 meths164v hva) ?_
    simp only [go_sem, Nat.reduceAdd, Nat.reduceLT, Nat.reduceLeDiff, reduceCtorEq]
    exact PostF.same (p := True) (.inr rfl) (by simp only [resVal, resVals, resVal1, one, go_sem, Nat.reduceLT, Nat.reduceLeDiff, reduceCtorEq]) trivial (by simp [Tx.nf, nfl]) (by simp [UpdAll])
  | true =>
    rw [hV] at hva
    simp only [if_true]
    obtain ⟨b1, b2, b3⟩ := fwdV_all hV
    obtain ⟨e1, c1⟩ := serB_nat b2
    obtain ⟨sn, hsn⟩ : ∃ sn, sn = sk.map fun k => (k.1.toNat, k.2.toNat) := ⟨_, rfl⟩
    have hsk : sn.map kN = sk := by
      rw [hsn, List.map_map]
      conv => rhs; rw [← List.map_id sk]
      apply List.map_congr_left
      intro k hk
      obtain ⟨d1, d2⟩ := b1 k hk
      simp only [Function.comp, kN, id]
      rw [← (serB_nat d1).1, ← (serB_nat d2).1]
    have hsb : ∀ k ∈ sn, k.1 < 256 ^ 2 ∧ k.2 < 256 ^ 2 := by
      intro k hk
      rw [hsn] at hk
      obtain ⟨y, hy, rfl⟩ := List.mem_map.1 hk
      obtain ⟨d1, d2⟩ := b1 y hy
      exact ⟨(serB_nat d1).2, (serB_nat d2).2⟩
    have hsl : sn.length ≤ 30 := by rw [hsn, List.length_map]; exact b3
    rw [← hsn]
    have hw : ∀ (F : SF) (L nx : Nat) (n : Nm), (n.l < L ∨ (n.l = L ∧ n.i < nx)) → bldF F n 181 none [] → Con Try.prog 127 [fwdP cum sk, .ptr n 0 0] F L nx (nx + 1) (.tup [.int .i64 192, .int .i64 0]) (bldU n 181 ⟨L, nx⟩ (fwdT cum.toNat sn)) [n] := by
      intro F L nx n hn hb
      have := forwardWrite_ok (F := F) (L := L) (nx := nx) n hn cum.toNat sn c1 hsb hsl hb
      rw [hsk, ← e1] at this
      exact this
    refine Con.body (cxOk (L + 1)) rfl rfl (fn := Try.f55) (c := Try.f55.body.getD .skip) (by kernel_rfl) (by rfl) (by kernel_rfl) rfl (by simp) ?_
    intro F3 hF1 hF2
    simp only [Try.f55, cx, fwdP, go_sem, meths, Nat.reduceSub, Nat.reduceAdd, Nat.reduceLT, Nat.reduceLeDiff, Nat.reduceBEq, reduceCtorEq]
    refine CallVC.same (putGood_ok 164 _ 126 127 meths164v meths164w hva 192 0 (fwdT cum.toNat sn) ?_ ?_ hw) ?_
    · intro h
      have := congrArg List.length h
      unfold fwdT at this
      simp [putB_len] at this
    · unfold fwdT
      rw [List.length_append, skT_len, putB_len]; omega
    simp only [go_sem, Nat.reduceAdd, Nat.reduceLT, Nat.reduceLeDiff, reduceCtorEq]
    exact PostF.same (p := True) (.inr rfl) (by simp only [resVal, resVals, resVal1, one, go_sem, Nat.reduceLT, Nat.reduceLeDiff, reduceCtorEq]) trivial (by simp [Tx.nf, nfl]) (by simp [UpdAll])
end Go.Proofs.Ytfhhbkehlfipgaa
end

section
set_option linter.unusedSimpArgs false
set_option linter.unusedVariables false
set_option linter.unnecessarySimpa false
set_option linter.unusedSectionVars false
namespace Go.Proofs.Ytfhhbkehlfipgaa
open Go.Tx
set_option maxRecDepth 100000
set_option linter.unusedSimpArgs false
set_option linter.unusedVariables false
def datZ : Dat := ⟨0, 0, 0, 0, false, false, false, []⟩
def cutS (ps : List Dat) : Nat → Int → Dat → List Int → List Int
  | 0, _, _, _ => []
  | k + 1, t, b, ns =>
    match getT ps t with
    | none => []
    | some d =>
      if d.la || ns.contains t then []
      else if decide (0 < ns.length) && (d.st != b.st || d.sq != b.sq || d.lo != b.lo) then []
      else if d.fi then ns ++ [t] else cutS ps k ((t - 1) % 4294967296) d (ns ++ [t])
def cutG (ps : List Dat) (cum : Int) : List Int := cutS ps (ps.length + 1) cum datZ []
def skB (cum : Int) (kept : List Int) (d : Dat) : Bool := d.lo && decide (lead d.tsn cum 32 ≤ 0) && !kept.contains d.tsn
def skipStep (z : List Int × List Dat) (k : Int × Int) : List Int × List Dat :=
  if 0 ≤ lead k.2 (z.1.getD k.1.toNat 0) 16 then (nextI z.1 k.1 k.2, nextP z.1 z.2 k.1 k.2) else z
def skipL (inn : List Int) (ps : List Dat) (sk : List (Int × Int)) : List Int × List Dat := sk.foldl skipStep (inn, ps)
def skipP (inn : List Int) (ps : List Dat) (cum : Int) (sk : List (Int × Int)) : List Dat := withoutG (skipL inn ps sk).2 (skB cum (cutG (skipL inn ps sk).2 cum))
def skipG (inn : List Int) (ps : List Dat) (cum : Int) (sk : List (Int × Int)) : List Int × List Dat × List Msg := delG (skipP inn ps cum sk).length (skipL inn ps sk).1 (skipP inn ps cum sk) []
theorem PsOk.without {inn : List Int} {ps : List Dat} (h : PsOk inn ps) (p : Dat → Bool) : PsOk inn (withoutG ps p) where
  len := Nat.le_trans (List.length_filter_le _ _) h.len
  all := fun d hd => h.all d (List.mem_filter.1 hd).1
  nodup := List.Nodup.sublist (List.Sublist.map _ List.filter_sublist) h.nodup
theorem PsOk.next {inn : List Int} {ps : List Dat} (h : PsOk inn ps) (st sq : Int) (hst : 0 ≤ st) : PsOk (nextI inn st sq) (nextP inn ps st sq) := by
  have hw := h.without (oldB (nextI inn st sq) st)
  refine ⟨hw.len, fun d hd => ?_, hw.nodup⟩
  have hm := List.mem_filter.1 hd
  obtain ⟨a1, a2, a3⟩ := partOk_ok (h.all d hm.1)
  have hb := Dat.ok_bounds a1
  unfold partOk
  rw [a1, nextI_len]
  simp only [Bool.true_and, Bool.and_eq_true, decide_eq_true_eq, Bool.or_eq_true]
  refine ⟨a2, ?_⟩
  by_cases hs : d.st = st
  · have := hm.2
    simp only [oldB, hs, beq_self_eq_true, Bool.true_and, Bool.not_eq_true', Bool.and_eq_false_iff, Bool.not_eq_false', decide_eq_false_iff_not] at this
    rcases this with h | h
    · exact .inl h
    · right; rw [hs]; omega
  · rcases a3 with h | h
    · exact .inl h
    · right
      have : (nextI inn st sq).getD d.st.toNat 0 = inn.getD d.st.toNat 0 := by
        unfold nextI
        rw [List.getD_eq_getElem?_getD, List.getElem?_set_ne (by omega), ← List.getD_eq_getElem?_getD]
      rw [this]; exact h
theorem delG_valid : ∀ (k : Nat) (inn : List Int) (ps : List Dat) (out : List Msg), PsOk inn ps → inn.all (serB 16) = true → ps.length ≤ k →
    PsOk (delG k inn ps out).1 (delG k inn ps out).2.1 ∧ dueG (delG k inn ps out).1 (delG k inn ps out).2.1 = none ∧ (delG k inn ps out).1.all (serB 16) = true
  | 0, inn, ps, out, h, hi, hl => by
    have : ps = [] := List.length_eq_zero_iff.1 (by omega)
    subst this
    exact ⟨h, rfl, hi⟩
  | k + 1, inn, ps, out, h, hi, hl => by
    rw [delG]
    cases hd : dueG inn ps with
    | none => exact ⟨h, hd, hi⟩
    | some r =>
      obtain ⟨m, ns⟩ := r
      obtain ⟨d, hdm, hc, hdq⟩ := due_spec hd
      obtain ⟨e1, e2, e3, e4⟩ := complete_spec hc
      have hwl : (withoutG ps fun d => ns.contains d.tsn).length < ps.length := without_len hdm (by simpa using e4)
      have h2 := h.without fun d => ns.contains d.tsn
      simp only
      split
      · exact delG_valid k _ _ _ h2 hi (by omega)
      · have hb := Dat.ok_bounds (partOk_ok (h.all d hdm)).1
        refine delG_valid k _ _ _ (h2.next _ _ (by omega)) (nextI_ser hi _ _) ?_
        have : (nextP inn (withoutG ps fun d => ns.contains d.tsn) m.st (inn.getD m.st.toNat 0)).length ≤ _ := List.length_filter_le _ _
        omega
theorem psOk_add {inn : List Int} {ps : List Dat} (h : PsOk inn ps) {d : Dat} (hl : ps.length < 80) (hd : partOk inn d = true) (hne : ps.any (fun y => y.tsn == d.tsn) = false) : PsOk inn (ps ++ [d]) where
  len := by simp; omega
  all := by
    intro x hx
    rcases List.mem_append.1 hx with h' | h'
    · exact h.all x h'
    · simp at h'; subst h'; exact hd
  nodup := by
    rw [List.map_append, List.nodup_append]
    refine ⟨h.nodup, by simp, ?_⟩
    intro x hx y hy
    simp at hy; subst hy
    obtain ⟨z, hz, rfl⟩ := List.mem_map.1 hx
    rw [List.any_eq_false] at hne
    exact fun he => hne z hz (by simp [he])
theorem takeG_valid {inn : List Int} {ps : List Dat} (h : PsOk inn ps) (hD : dueG inn ps = none) (hi : inn.all (serB 16) = true) {d : Dat} (hl : ps.length < 80) (hd : d.ok = true) (hst : d.st < inn.length) :
    PsOk (takeG inn ps d).1 (takeG inn ps d).2.1 ∧ dueG (takeG inn ps d).1 (takeG inn ps d).2.1 = none ∧ (takeG inn ps d).1.all (serB 16) = true := by
  unfold takeG
  split
  · exact ⟨h, hD, hi⟩
  · rename_i hc
    simp only [Bool.or_eq_true, Bool.and_eq_true, Bool.not_eq_true', decide_eq_true_eq, not_or, not_and] at hc
    refine delG_valid _ _ _ _ (psOk_add h hl ?_ (by simpa using hc.1)) hi (by simp)
    unfold partOk
    rw [hd]
    simp only [Bool.true_and, Bool.and_eq_true, decide_eq_true_eq, Bool.or_eq_true]
    refine ⟨hst, ?_⟩
    cases hlo : d.lo with
    | true => exact .inl rfl
    | false => right; have := hc.2 hlo; omega
theorem takeG_len (inn : List Int) (ps : List Dat) (d : Dat) : (takeG inn ps d).1.length = inn.length := by
  unfold takeG
  split
  · rfl
  · exact delG_len _ _ _ _
theorem delG_le : ∀ (k : Nat) (inn : List Int) (ps : List Dat) (out : List Msg), (delG k inn ps out).2.1.length ≤ ps.length
  | 0, _, _, _ => Nat.le_refl _
  | k + 1, inn, ps, out => by
    rw [delG]
    split
    · exact Nat.le_refl _
    · rename_i m ns _
      have h1 : (withoutG ps fun d => ns.contains d.tsn).length ≤ ps.length := List.length_filter_le _ _
      simp only
      split
      · exact Nat.le_trans (delG_le k _ _ _) h1
      · refine Nat.le_trans (delG_le k _ _ _) (Nat.le_trans ?_ h1)
        exact List.length_filter_le _ _
theorem takeG_le (inn : List Int) (ps : List Dat) (d : Dat) : (takeG inn ps d).2.1.length ≤ ps.length + 1 := by
  unfold takeG
  split
  · simp
  · refine Nat.le_trans (delG_le _ _ _ _) (by simp)
theorem Str0.inn {out inn inn2 asked : List Int} {num seen : Int} (h : Str0 out inn num seen asked) (hl : inn2.length = inn.length) (hi : inn2.all (serB 16) = true) : Str0 out inn2 num seen asked :=
  ⟨h.o1, h.o2, h.o3, by rw [hl]; exact h.i1, by rw [hl]; exact h.i2, hi, h.n, h.s, h.a, h.a2⟩
theorem skipStep_ok {z : List Int × List Dat} (h : PsOk z.1 z.2) (hi : z.1.all (serB 16) = true) (k : Int × Int) (hk : 0 ≤ k.1) : PsOk (skipStep z k).1 (skipStep z k).2 ∧ (skipStep z k).1.all (serB 16) = true ∧ (skipStep z k).1.length = z.1.length := by
  unfold skipStep
  split
  · exact ⟨h.next _ _ hk, nextI_ser hi _ _, nextI_len _ _ _⟩
  · exact ⟨h, hi, rfl⟩
theorem skipL_ok : ∀ (sk : List (Int × Int)) (z : List Int × List Dat), PsOk z.1 z.2 → z.1.all (serB 16) = true → (∀ k ∈ sk, 0 ≤ k.1) → PsOk (sk.foldl skipStep z).1 (sk.foldl skipStep z).2 ∧ (sk.foldl skipStep z).1.all (serB 16) = true ∧ (sk.foldl skipStep z).1.length = z.1.length
  | [], z, h, hi, _ => ⟨h, hi, rfl⟩
  | k :: sk, z, h, hi, hk => by
    obtain ⟨a, b, c⟩ := skipStep_ok h hi k (hk k (by simp))
    obtain ⟨a', b', c'⟩ := skipL_ok sk (skipStep z k) a b (fun q hq => hk q (by simp [hq]))
    exact ⟨a', b', c'.trans c⟩
def comesG (inn : List Int) (ps : List Dat) : List Dat → List Msg → List Int × List Dat × List Msg
  | [], out => (inn, ps, out)
  | d :: l, out => comesG (takeG inn ps d).1 (takeG inn ps d).2.1 l (out ++ (takeG inn ps d).2.2)
end Go.Proofs.Ytfhhbkehlfipgaa
end

section
set_option linter.unusedSimpArgs false
set_option linter.unusedVariables false
set_option linter.unnecessarySimpa false
set_option linter.unusedSectionVars false
namespace Go.Proofs.Ytfhhbkehlfipgaa
open Go.Tx
set_option maxRecDepth 100000
set_option maxHeartbeats 16000000
set_option linter.unusedSimpArgs false
set_option linter.unusedVariables false
theorem okS {a : List Oper} {b : Nat} (h : okStatic a b = true) : okStatic a b = true := h
theorem indexFunc2_ok {F : SF} {L nx : Nat} (ps : List (Int × Int)) (g : FuncId) (fl cl : List PV) (p : Int × Int → Bool) (rd : List Nm) (hrd : ∀ n ∈ rd, n.l ≤ L) (hlen : ps.length ≤ 1000) (hcl : ∀ x ∈ ps, ∀ L' nx', L ≤ L' → Con Try.prog g (fl ++ [.agg (kE x)] ++ cl) F L' nx' nx' (.bool (p x)) [] rd) :
    Con Try.prog 86 [.fs 2 (ps.map kE), .fn (.func g) fl cl] F L nx nx (.int .i64 (idxI p ps)) [] rd := by
  refine Con.body (cxOk (L + 1)) rfl rfl (fn := Try.f86) (c := Try.f86.body.getD .skip) (by kernel_rfl) (by rfl) (by kernel_rfl) rfl  hrd ?_
  intro F3 hF1 hF2
  simp only [Try.f86, cx, go_sem, meths, Nat.reduceSub, Nat.reduceAdd, Nat.reduceLT]
  refine loopK.intro _ _ (I := fun i : Nat => ⟨[some (.fs 2 (ps.map kE)), some (.fn (.func g) fl cl), none, none, none, none, none, some (.int .i64 ps.length), some (.int .i64 i), none, none, none, none, none, none, none, none, none, none], [], 10000 * (i + 1)⟩) (pre := fun i => i ≤ ps.length ∧ ∀ (j : Nat) (hj : j < ps.length), j < i → p ps[j] = false) (μ := fun i => ps.length - i) 0 ⟨by omega, by intro j _ h; omega⟩ ?_ ?_
  · exact Sub.of (fun n hn => hF2 n (by have : n.l = L + 1 := hn; omega)) (by simp only [go_sem, subT, and_self, List.length_map, Int.natCast_zero]) trivial trivial (by simp)
  · rintro i ⟨hi, hp⟩
    by_cases hlt : i < ps.length
    · have f1 : decide ((i : Int) < (ps.length : Int)) = true := dT (by omega)
      have r0 : (ps.map kE).getD i [] = kE ps[i] := by simp [hlt, List.getD_eq_getElem?_getD]
      simp only [f1, r0, kE, List.length_map, Nat.add_assoc, Nat.reduceAdd, go_sem, Nat.reduceAdd, Nat.reduceLT, Nat.reduceLeDiff]
      repeat refine And.intro (by first | omega | exact ⟨by omega, by omega⟩ | exact ⟨by omega, by omega, by omega⟩ | exact ⟨⟨by omega, by omega⟩, by omega, by omega⟩ | exact okDyn_num (fun x => x.i) (by kernel_rfl) | kernel_rfl | exact okDyn_num (fun _ => 0) (by kernel_rfl)) ?_
      have hc := hcl ps[i] (List.getElem_mem hlt) (L + 1) (10000 * (i + 1)) (by omega)
      simp only [kE] at hc hcl
      refine CallVC.same ((hcl ps[i] (List.getElem_mem hlt) _ _ (by omega)).agree hF1) ?_
      cases hpi : p ps[i]
      · simp only [go_sem, Nat.reduceAdd, Nat.reduceLT]
        refine ⟨⟨by omega, by omega⟩, i + 1, ⟨by omega, fun j hj hji => ?_⟩, by omega, Sub.of (fun n hn => hF2 n (by have : n.l = L + 1 := hn; omega)) (by simp only [go_sem, subT, and_self, Int.natCast_succ]) trivial trivial (by simp only []; omega)⟩
        by_cases he : j = i
        · subst he; exact hpi
        · exact hp j hj (by omega)
      · simp only [go_sem, Nat.reduceAdd, Nat.reduceLT]
        exact .int (.inr rfl) rfl (idxI_stop hlt hp hpi).symm trivial
    · have f1 : decide ((i : Int) < (ps.length : Int)) = false := dF (by omega)
      simp only [f1, go_sem, Nat.reduceAdd, Nat.reduceLT]
      exact .int (.inr rfl) rfl (idxI_end (fun j hj => hp j hj (by omega))).symm trivial
theorem containsFunc2_ok {F : SF} {L nx : Nat} (ps : List (Int × Int)) (g : FuncId) (fl cl : List PV) (p : Int × Int → Bool) (rd : List Nm) (hrd : ∀ n ∈ rd, n.l ≤ L) (hlen : ps.length ≤ 1000) (hcl : ∀ x ∈ ps, ∀ L' nx', L ≤ L' → Con Try.prog g (fl ++ [.agg (kE x)] ++ cl) F L' nx' nx' (.bool (p x)) [] rd) :
    Con Try.prog 56 [.fs 2 (ps.map kE), .fn (.func g) fl cl] F L nx nx (.bool (ps.any p)) [] rd := by
  refine Con.body (cxOk (L + 1)) rfl rfl (fn := Try.f56) (c := Try.f56.body.getD .skip) (by kernel_rfl) (by rfl) (by kernel_rfl) rfl  hrd ?_
  intro F3 hF1 hF2
  simp only [Try.f56, cx, go_sem, meths, Nat.reduceSub, Nat.reduceAdd, Nat.reduceLT]
  refine CallVC.same ((indexFunc2_ok ps g fl cl p rd (fun n hn => by have := hrd n hn; omega) hlen (fun x hx L' nx' hL => hcl x hx L' nx' (by omega))).agree hF1) ?_
  simp only [go_sem, Nat.reduceAdd]
  exact .bool (.inr rfl) rfl (idxI_any p ps) trivial
theorem cut1_ok {F : SF} {L nx : Nat} (d : Dat) (a : Nm) (ha : a.l ≤ L) (ea : TypeId) (o p : Bool) (t : Int) (hF : F a = some (.rows ea 1 o p [[.int .i64 t]])) :
    Con Try.prog 89 [.agg d.row, .ptr a 0 0] F L nx nx (.bool (d.tsn == t)) [] [a] := by
  refine Con.body (cxOk (L + 1)) rfl rfl (fn := Try.f89) (c := Try.f89.body.getD .skip) (by kernel_rfl) (by rfl) (by kernel_rfl) rfl  (by simpa using ha) ?_
  intro F3 hF1 hF2
  have hF := (hF1 a (by simp)).trans hF
  have q1 := nm_out' ha
  have q2 := nm_out ha
  simp only [Try.f89, cx, Dat.row, hF, q2, Nat.add_zero, go_sem, meths, Nat.reduceSub, Nat.reduceAdd, Nat.reduceLT, Nat.reduceLeDiff, Nat.reduceBEq]
  exact .bool (.inr rfl) rfl rfl (by simp [UpdAll])
theorem skip1_ok {F : SF} {L nx : Nat} (k : Int × Int) (a : Nm) (ha : a.l ≤ L) (ea : TypeId) (o p : Bool) (out parts num seen asked : PV) (inn : List Int) (hF : F a = some (.rows ea 6 o p [[out, .fs 1 (inn.map eI), parts, num, seen, asked]])) :
    Con Try.prog 57 [.agg (kE k), .ptr a 0 0] F L nx nx (.bool (decide ((inn.length : Int) ≤ k.1))) [] [a] := by
  refine Con.body (cxOk (L + 1)) rfl rfl (fn := Try.f57) (c := Try.f57.body.getD .skip) (by kernel_rfl) (by rfl) (by kernel_rfl) rfl  (by simpa using ha) ?_
  intro F3 hF1 hF2
  have hF := (hF1 a (by simp)).trans hF
  have q1 := nm_out' ha
  have q2 := nm_out ha
  simp only [Try.f57, cx, kE, hF, q2, List.length_map, Nat.add_zero, go_sem, meths, Nat.reduceSub, Nat.reduceAdd, Nat.reduceLT, Nat.reduceLeDiff, Nat.reduceBEq, Int.reduceToNat]
  repeat refine And.intro (by first | omega | exact ⟨by omega, by omega⟩ | exact ⟨by omega, by omega, by omega⟩ | exact ⟨⟨by omega, by omega⟩, by omega, by omega⟩ | exact okDyn_num (fun x => x.i) (by kernel_rfl) | kernel_rfl | exact okDyn_num (fun _ => 0) (by kernel_rfl)) ?_
  exact .bool (.inr rfl) rfl rfl (by simp [UpdAll])
theorem skip2_ok {F : SF} {L nx : Nat} (d : Dat) (hd : d.ok = true) (a b : Nm) (ha : a.l ≤ L) (hb : b.l ≤ L) (ea eb : TypeId) (oa ob pa pb : Bool) (cum : Int) (hc : 0 ≤ cum) (hc2 : cum < 4294967296) (sk : PV) (ns : List Int) (hns : ns.length ≤ 1000) (hF : F a = some (.rows ea 2 oa pa [[.int .i64 cum, sk]])) (hG : F b = some (.rows eb 1 ob pb [[.fs 1 (ns.map eI)]])) :
    Con Try.prog 60 [.agg d.row, .ptr a 0 0, .ptr b 0 0] F L nx nx (.bool (skB cum ns d)) [] [a, b] := by
  refine Con.body (cxOk (L + 1)) rfl rfl (fn := Try.f60) (c := Try.f60.body.getD .skip) (by kernel_rfl) (by rfl) (by kernel_rfl) rfl  (by simp; omega) ?_
  intro F3 hF1 hF2
  have hF := (hF1 a (by simp)).trans hF
  have hG := (hF1 b (by simp)).trans hG
  have q1 := nm_out' ha
  have q2 := nm_out ha
  have q3 := nm_out' hb
  have q4 := nm_out hb
  obtain ⟨w1, w2, w3, w4, w5, w6, w7, w8⟩ := Dat.ok_bounds hd
  unfold skB
  have h7 : ns.contains d.tsn = ns.any fun z => d.tsn == z := List.contains_eq_any_beq
  cases h2 : d.lo with
  | false =>
    simp only [Try.f60, cx, Dat.row, h2, go_sem, meths, Nat.reduceSub, Nat.reduceAdd, Nat.reduceLT, Nat.reduceLeDiff, Nat.reduceBEq]
    repeat refine And.intro (by first | omega | exact ⟨by omega, by omega⟩ | exact ⟨by omega, by omega, by omega⟩ | exact ⟨⟨by omega, by omega⟩, by omega, by omega⟩ | exact okDyn_num (fun x => x.i) (by kernel_rfl) | kernel_rfl | exact okDyn_num (fun _ => 0) (by kernel_rfl)) ?_
    exact .bool (.inr rfl) rfl rfl (by simp [UpdAll])
  | true =>
    simp only [Try.f60, cx, Dat.row, hF, q2, h2, Nat.add_zero, go_sem, meths, Nat.reduceSub, Nat.reduceAdd, Nat.reduceLT, Nat.reduceLeDiff, Nat.reduceBEq]
    repeat refine And.intro (by first | omega | exact ⟨by omega, by omega⟩ | exact ⟨by omega, by omega, by omega⟩ | exact ⟨⟨by omega, by omega⟩, by omega, by omega⟩ | exact okDyn_num (fun x => x.i) (by kernel_rfl) | kernel_rfl | exact okDyn_num (fun _ => 0) (by kernel_rfl)) ?_
    refine CallVC.same (lead_ok d.tsn cum 32 (by omega) (by omega) w1 w2 hc hc2) ?_
    cases h3 : decide (lead d.tsn cum 32 ≤ 0) with
    | false =>
      simp only [h3, go_sem, Nat.reduceAdd]
      repeat refine And.intro (by first | omega | exact ⟨by omega, by omega⟩ | exact ⟨by omega, by omega, by omega⟩ | exact ⟨⟨by omega, by omega⟩, by omega, by omega⟩ | exact okDyn_num (fun x => x.i) (by kernel_rfl) | kernel_rfl | exact okDyn_num (fun _ => 0) (by kernel_rfl)) ?_
      exact .bool (.inr rfl) rfl rfl (by simp [UpdAll])
    | true =>
      simp only [hG, q4, h3, Nat.add_zero, go_sem, Nat.reduceAdd, Nat.reduceLT, Nat.reduceLeDiff, Nat.reduceBEq]
      repeat refine And.intro (by first | omega | exact ⟨by omega, by omega⟩ | exact ⟨by omega, by omega, by omega⟩ | exact ⟨⟨by omega, by omega⟩, by omega, by omega⟩ | exact okDyn_num (fun x => x.i) (by kernel_rfl) | kernel_rfl | exact okDyn_num (fun _ => 0) (by kernel_rfl)) ?_
      refine CallVC.same (contains_ok ns d.tsn (by omega)) ?_
      simp only [go_sem, Nat.reduceAdd]
      repeat refine And.intro (by first | omega | exact ⟨by omega, by omega⟩ | exact ⟨by omega, by omega, by omega⟩ | exact ⟨⟨by omega, by omega⟩, by omega, by omega⟩ | exact okDyn_num (fun x => x.i) (by kernel_rfl) | kernel_rfl | exact okDyn_num (fun _ => 0) (by kernel_rfl)) ?_
      exact .bool (.inr rfl) rfl (by rw [show List.elem d.tsn ns = ns.contains d.tsn from rfl, h7]) (by simp [UpdAll])
end Go.Proofs.Ytfhhbkehlfipgaa
end

section
set_option linter.unusedSimpArgs false
set_option linter.unusedVariables false
set_option linter.unnecessarySimpa false
set_option linter.unusedSectionVars false
namespace Go.Proofs.Ytfhhbkehlfipgaa
open Go.Tx
set_option maxRecDepth 100000
set_option maxHeartbeats 16000000
set_option linter.unusedSimpArgs false
set_option linter.unusedVariables false
end Go.Proofs.Ytfhhbkehlfipgaa
end

section
set_option linter.unusedSimpArgs false
set_option linter.unusedVariables false
set_option linter.unnecessarySimpa false
set_option linter.unusedSectionVars false
namespace Go.Proofs.Ytfhhbkehlfipgaa
open Go.Tx
set_option maxRecDepth 100000
set_option maxHeartbeats 16000000
set_option linter.unusedSimpArgs false
set_option linter.unusedVariables false
end Go.Proofs.Ytfhhbkehlfipgaa
end

section
set_option linter.unusedSimpArgs false
set_option linter.unusedVariables false
set_option linter.unnecessarySimpa false
set_option linter.unusedSectionVars false
namespace Go.Proofs.Ytfhhbkehlfipgaa
open Go.Tx
set_option maxRecDepth 100000
set_option maxHeartbeats 16000000
set_option linter.unusedSimpArgs false
set_option linter.unusedVariables false
def oU (k : Nat) : List PV := [.int .u8 k]
end Go.Proofs.Ytfhhbkehlfipgaa
end

section
set_option linter.unusedSimpArgs false
set_option linter.unusedVariables false
set_option linter.unnecessarySimpa false
set_option linter.unusedSectionVars false
namespace Go.Proofs.Ytfhhbkehlfipgaa
open Go.Tx
set_option maxRecDepth 100000
set_option maxHeartbeats 1000000
set_option linter.unusedSimpArgs false
set_option linter.unusedVariables false
structure Plan where
  n : Nat
  M : Nat → Msg
  c : Nat → Nat
  t : Nat → Nat → Int
  sq : Nat → Nat
structure Plan.Ok (p : Plan) : Prop where
  c1 : ∀ j, j < p.n → 1 ≤ p.c j
  tn : ∀ j i, j < p.n → i + 1 < p.c j → (p.t j i + 1) % 4294967296 = p.t j (i + 1)
  ti : ∀ j i j' i', j < p.n → i < p.c j → j' < p.n → i' < p.c j' → p.t j i = p.t j' i' → j = j' ∧ i = i'
  sqi : ∀ j j', j < p.n → j' < p.n → (p.M j).lo = false → (p.M j').lo = false → (p.M j).st = (p.M j').st → p.sq j = p.sq j' → j = j'
  sqd : ∀ j, j < p.n → (p.M j).lo = false → ∀ q, q < p.sq j → ∃ j', j' < p.n ∧ (p.M j').lo = false ∧ (p.M j').st = (p.M j).st ∧ p.sq j' = q
  sqb : ∀ j, j < p.n → p.sq j < 1000
  tx : ∀ j, j < p.n → (List.range (p.c j)).flatMap (pieceS (p.M j).tx) = (p.M j).tx
def Plan.pc (p : Plan) (j i : Nat) : Dat := ⟨p.t j i, (p.M j).st, p.sq j, (p.M j).pr, i == 0, i + 1 == p.c j, (p.M j).lo, pieceS (p.M j).tx i⟩
def Plan.tsns (p : Plan) (j : Nat) : List Int := (List.range (p.c j)).map (p.t j)
structure Plan.Sub (p : Plan) (ps : List Dat) : Prop where
  mem : ∀ d ∈ ps, ∃ j i, j < p.n ∧ i < p.c j ∧ d = p.pc j i
  nd : (ps.map Dat.tsn).Nodup
def Plan.all (p : Plan) (ps : List Dat) (j : Nat) : Prop := ∀ i, i < p.c j → p.pc j i ∈ ps
section
variable {p : Plan} (hp : p.Ok)
include hp
theorem Plan.pc_inj {j i j' i' : Nat} (h1 : j < p.n) (h2 : i < p.c j) (h3 : j' < p.n) (h4 : i' < p.c j') (h : p.pc j i = p.pc j' i') : j = j' ∧ i = i' := hp.ti j i j' i' h1 h2 h3 h4 (congrArg Dat.tsn h)
theorem Plan.getT_pc {ps : List Dat} (hs : p.Sub ps) {j i : Nat} (h1 : j < p.n) (h2 : i < p.c j) : (getT ps (p.t j i) = some (p.pc j i) ∧ p.pc j i ∈ ps) ∨ (getT ps (p.t j i) = none ∧ p.pc j i ∉ ps) := by
  cases hg : getT ps (p.t j i) with
  | none =>
    right
    refine ⟨rfl, fun hm => ?_⟩
    unfold getT at hg
    rw [List.find?_eq_none] at hg
    exact hg _ hm (by simp [Plan.pc])
  | some d =>
    left
    obtain ⟨hm, ht⟩ := getT_mem hg
    obtain ⟨j', i', h3, h4, rfl⟩ := hs.mem d hm
    obtain ⟨rfl, rfl⟩ := hp.ti _ _ _ _ h3 h4 h1 h2 ht
    exact ⟨rfl, hm⟩
theorem Plan.len_ge {ps : List Dat} {j i : Nat} (h1 : j < p.n) (h2 : i < p.c j) (hm : ∀ i', i' ≤ i → p.pc j i' ∈ ps) : i + 1 ≤ ps.length := by
  have hnd : ((List.range (i + 1)).map (p.t j)).Nodup := by
    rw [List.nodup_iff_pairwise_ne, List.pairwise_map]
    refine List.Pairwise.imp_of_mem ?_ (List.nodup_iff_pairwise_ne.1 List.nodup_range)
    intro a b ha hb hab he
    have ha := List.mem_range.1 ha
    have hb := List.mem_range.1 hb
    exact hab (hp.ti j a j b h1 (by omega) h1 (by omega) he).2
  have := nodup_sub (m := ps.map Dat.tsn) hnd (fun x hx => by
    obtain ⟨a, ha, rfl⟩ := List.mem_map.1 hx
    have ha := List.mem_range.1 ha
    exact List.mem_map.2 ⟨p.pc j a, hm a (by omega), rfl⟩)
  simpa using this
theorem Plan.compG_pc {ps : List Dat} (hs : p.Sub ps) {j : Nat} (h1 : j < p.n) : ∀ (k i : Nat) (tx : List UInt8) (ns : List Int), i < p.c j → (∀ i', i' ≤ i → p.pc j i' ∈ ps) → ns = (List.range i).map (p.t j) → tx = (List.range i).flatMap (pieceS (p.M j).tx) → ps.length + 1 ≤ k + i →
    (p.all ps j ∧ compG ps (p.pc j 0) k (p.pc j i) tx ns = some ((p.M j).tx, p.tsns j)) ∨ (¬ p.all ps j ∧ compG ps (p.pc j 0) k (p.pc j i) tx ns = none)
  | 0, i, tx, ns, h2, hm, _, _, hk => by
    have := p.len_ge hp h1 h2 hm
    omega
  | k + 1, i, tx, ns, h2, hm, hns, htx, hk => by
    have e1 : ns.contains (p.t j i) = false := by
      rw [hns, List.contains_eq_any_beq, List.any_eq_false]
      intro x hx
      obtain ⟨a, ha, rfl⟩ := List.mem_map.1 hx
      have ha := List.mem_range.1 ha
      simp only [beq_iff_eq]
      intro he
      have := (hp.ti j i j a h1 h2 h1 (by omega) he).2
      omega
    have e2 : ((i == 0) && !ns.isEmpty) = false := by
      cases i with
      | zero => rw [hns]; rfl
      | succ i => rfl
    have hc : ((p.pc j i).st != (p.pc j 0).st || (p.pc j i).sq != (p.pc j 0).sq || (p.pc j i).lo != (p.pc j 0).lo || ((p.pc j i).fi && !ns.isEmpty) || ns.contains (p.pc j i).tsn) = false := by
      have : ((p.pc j i).fi && !ns.isEmpty) = false := e2
      rw [this, show ns.contains (p.pc j i).tsn = false from e1]
      simp [Plan.pc]
    have hstep : ns ++ [p.t j i] = (List.range (i + 1)).map (p.t j) := by rw [List.range_succ, List.map_append, hns]; rfl
    have hstx : tx ++ pieceS (p.M j).tx i = (List.range (i + 1)).flatMap (pieceS (p.M j).tx) := by rw [List.range_succ, List.flatMap_append, htx]; simp
    rw [compG, if_neg (by rw [hc]; simp)]
    by_cases hla : i + 1 = p.c j
    · left
      have : (p.pc j i).la = true := by simp [Plan.pc, hla]
      rw [this]
      refine ⟨fun i' hi' => hm i' (by omega), ?_⟩
      simp only [if_true]
      rw [show (p.pc j i).pl = pieceS (p.M j).tx i from rfl, show (p.pc j i).tsn = p.t j i from rfl, hstep, hstx, hla, hp.tx j h1]
      rfl
    · have : (p.pc j i).la = false := by simp [Plan.pc, hla]
      rw [this]
      simp only [if_false, Bool.false_eq_true]
      rw [show (p.pc j i).tsn = p.t j i from rfl, hp.tn j i h1 (by omega)]
      rcases p.getT_pc hp hs h1 (show i + 1 < p.c j by omega) with ⟨g1, g2⟩ | ⟨g1, g2⟩
      · rw [g1]
        simp only
        exact Plan.compG_pc hs h1 k (i + 1) _ _ (by omega) (fun i' hi' => by
          by_cases he : i' = i + 1
          · subst he; exact g2
          · exact hm i' (by omega)) hstep hstx (by omega)
      · right
        rw [g1]
        exact ⟨fun ha => g2 (ha _ (by omega)), rfl⟩
theorem Plan.complete_pc {ps : List Dat} (hs : p.Sub ps) {j i : Nat} (h1 : j < p.n) (h2 : i < p.c j) (hm : p.pc j i ∈ ps) : (i = 0 ∧ p.all ps j ∧ complete ps (p.pc j i) = some (p.M j, p.tsns j)) ∨ (¬ (i = 0 ∧ p.all ps j) ∧ complete ps (p.pc j i) = none) := by
  unfold complete
  by_cases hi : i = 0
  · subst hi
    rw [if_pos (show (p.pc j 0).fi = true from rfl)]
    rcases p.compG_pc hp hs h1 (ps.length + 1) 0 [] [] h2 (fun i' hi' => by rw [Nat.le_zero.1 hi']; exact hm) rfl rfl (by omega) with ⟨a, b⟩ | ⟨a, b⟩
    · left
      rw [b]
      exact ⟨rfl, a, rfl⟩
    · right
      rw [b]
      exact ⟨fun h => a h.2, rfl⟩
  · right
    rw [if_neg (by simp [Plan.pc, hi])]
    exact ⟨fun h => hi h.1, rfl⟩
theorem Plan.due_some {inn : List Int} {ps : List Dat} (hs : p.Sub ps) {m : Msg} {ns : List Int} (h : dueG inn ps = some (m, ns)) : ∃ j, j < p.n ∧ p.all ps j ∧ m = p.M j ∧ ns = p.tsns j ∧ ((p.M j).lo = true ∨ (p.sq j : Int) = inn.getD (p.M j).st.toNat 0) := by
  obtain ⟨d, hd, hc, hq⟩ := due_spec h
  obtain ⟨j, i, h1, h2, rfl⟩ := hs.mem d hd
  rcases p.complete_pc hp hs h1 h2 hd with ⟨_, a, b⟩ | ⟨_, b⟩
  · rw [b] at hc
    injection hc with hc
    injection hc with e1 e2
    exact ⟨j, h1, a, e1.symm, e2.symm, hq⟩
  · rw [b] at hc; cases hc
end
theorem lead_small {x y : Nat} (hx : x < 2000) (hy : y < 2000) : lead x y 16 = (x : Int) - y := by
  unfold lead
  rw [show (2 : Int) ^ (Int.toNat 16) = 65536 from rfl, show (2 : Int) ^ (Int.toNat (16 - 1)) = 32768 from rfl]
  split <;> omega
structure Plan.Inv (p : Plan) (x : Nat) (inn : List Int) (A : List Dat) (D : List Nat) (ps : List Dat) : Prop where
  a : p.Sub A
  dn : D.Nodup
  dl : ∀ j ∈ D, j < p.n
  dA : ∀ j ∈ D, j ≠ x → ∀ i, i < p.c j → p.pc j i ∈ A
  s : p.Sub ps
  m : ∀ j i, j < p.n → i < p.c j → (p.pc j i ∈ ps ↔ p.pc j i ∈ A ∧ j ∉ D)
  q : ∀ j, j < p.n → (p.M j).lo = false → (j ∈ D ↔ (p.sq j : Int) < inn.getD (p.M j).st.toNat 0)
  r : ∀ j, j < p.n → ∃ v : Nat, inn.getD (p.M j).st.toNat 0 = v ∧ v ≤ 1000
  st : ∀ j, j < p.n → 0 ≤ (p.M j).st ∧ (p.M j).st < inn.length
  ord : D.Pairwise fun a b => (p.M a).lo = false → (p.M b).lo = false → (p.M a).st = (p.M b).st → p.sq a < p.sq b
end Go.Proofs.Ytfhhbkehlfipgaa
end

section
set_option linter.unusedSimpArgs false
set_option linter.unusedVariables false
set_option linter.unnecessarySimpa false
set_option linter.unusedSectionVars false
namespace Go.Proofs.Ytfhhbkehlfipgaa
open Go.Tx
set_option maxRecDepth 100000
set_option maxHeartbeats 1000000
set_option linter.unusedSimpArgs false
set_option linter.unusedVariables false
theorem getD_nextI (inn : List Int) {st st' : Int} (sq : Int) (h0 : 0 ≤ st) (h1 : st < inn.length) (h0' : 0 ≤ st') : (nextI inn st sq).getD st'.toNat 0 = if st' = st then (sq + 1) % 65536 else inn.getD st'.toNat 0 := by
  unfold nextI
  rw [List.getD_eq_getElem?_getD, List.getElem?_set]
  split
  · rename_i he
    have : st' = st := by omega
    rw [if_pos this, if_pos (by omega)]; rfl
  · rw [if_neg (by rintro rfl; simp_all), ← List.getD_eq_getElem?_getD]
theorem Plan.sub_filter {p : Plan} {ps : List Dat} (hs : p.Sub ps) (f : Dat → Bool) : p.Sub (withoutG ps f) where
  mem := fun d hd => hs.mem d (List.mem_filter.1 hd).1
  nd := List.Nodup.sublist (List.Sublist.map _ List.filter_sublist) hs.nd
section
variable {p : Plan} (hp : p.Ok)
include hp
theorem Plan.in_tsns {j i j' : Nat} (h1 : j < p.n) (h2 : i < p.c j) (h3 : j' < p.n) : (p.tsns j').contains (p.t j i) = decide (j = j') := by
  rw [Bool.eq_iff_iff, List.contains_iff_mem, decide_eq_true_eq]
  constructor
  · intro h
    obtain ⟨i', hi', he⟩ := List.mem_map.1 h
    exact (hp.ti j' i' j i h3 (List.mem_range.1 hi') h1 h2 he).1.symm
  · rintro rfl
    exact List.mem_map.2 ⟨i, List.mem_range.2 h2, rfl⟩
theorem Plan.Inv.loose {x : Nat} {inn : List Int} {A ps : List Dat} {D : List Nat} (h : p.Inv x inn A D ps) {j : Nat} (h1 : j < p.n) (ha : p.all ps j) (hlo : (p.M j).lo = true) : p.Inv x inn A (D ++ [j]) (withoutG ps fun d => (p.tsns j).contains d.tsn) := by
  have hj : j ∉ D := ((h.m j 0 h1 (hp.c1 j h1)).1 (ha 0 (hp.c1 j h1))).2
  refine ⟨h.a, ?_, ?_, ?_, p.sub_filter h.s _, ?_, ?_, h.r, h.st, ?_⟩
  · rw [List.nodup_append]
    refine ⟨h.dn, by simp, fun a ha' b hb => ?_⟩
    simp at hb; subst hb; rintro rfl; exact hj ha'
  · intro k hk
    rcases List.mem_append.1 hk with hk | hk
    · exact h.dl k hk
    · simp at hk; subst hk; exact h1
  · intro k hk hx i hi
    rcases List.mem_append.1 hk with hk | hk
    · exact h.dA k hk hx i hi
    · simp at hk; subst hk; exact ((h.m k i h1 hi).1 (ha i hi)).1
  · intro k i hk hi
    unfold withoutG
    rw [List.mem_filter, h.m k i hk hi]
    have : (p.tsns j).contains (p.pc k i).tsn = decide (k = j) := p.in_tsns hp hk hi h1
    simp only [this, List.mem_append, List.mem_singleton, not_or, Bool.not_eq_true', decide_eq_false_iff_not, and_assoc]
  · intro k hk hl
    rw [← h.q k hk hl, List.mem_append, List.mem_singleton]
    constructor
    · rintro (h | rfl)
      · exact h
      · rw [hlo] at hl; cases hl
    · exact .inl
  · rw [List.pairwise_append]
    refine ⟨h.ord, by simp, fun a _ b hb _ hlb => ?_⟩
    simp at hb; subst hb; rw [hlo] at hlb; cases hlb
theorem Plan.Inv.next {x : Nat} {inn : List Int} {A ps : List Dat} {D : List Nat} (h : p.Inv x inn A D ps) {j : Nat} (h1 : j < p.n) (hlo : (p.M j).lo = false) (hq : (p.sq j : Int) = inn.getD (p.M j).st.toNat 0) (hA : j ≠ x → ∀ i, i < p.c j → p.pc j i ∈ A)
    (ps2 : List Dat) (hs2 : p.Sub ps2) (hm2 : ∀ k i, k < p.n → i < p.c k → (p.pc k i ∈ ps2 ↔ (p.pc k i ∈ A ∧ k ∉ D) ∧ k ≠ j)) :
    p.Inv x (nextI inn (p.M j).st (p.sq j)) A (D ++ [j]) (nextP inn ps2 (p.M j).st (p.sq j)) := by
  have hst := h.st j h1
  have hsq := hp.sqb j h1
  have hmod : ((p.sq j : Int) + 1) % 65536 = ((p.sq j + 1 : Nat) : Int) := by omega
  have hg : ∀ k, k < p.n → (nextI inn (p.M j).st (p.sq j)).getD (p.M k).st.toNat 0 = if (p.M k).st = (p.M j).st then ((p.sq j + 1 : Nat) : Int) else inn.getD (p.M k).st.toNat 0 := by
    intro k hk
    rw [getD_nextI inn _ hst.1 hst.2 (h.st k hk).1, hmod]
  have hj : j ∉ D := by rw [h.q j h1 hlo]; omega
  have hold : ∀ d ∈ ps2, oldB (nextI inn (p.M j).st (p.sq j)) (p.M j).st d = false := by
    intro d hd
    obtain ⟨k, i, hk, hi, rfl⟩ := hs2.mem d hd
    obtain ⟨⟨_, hkD⟩, hkj⟩ := (hm2 k i hk hi).1 hd
    unfold oldB
    rw [show (p.pc k i).st = (p.M k).st from rfl, show (p.pc k i).lo = (p.M k).lo from rfl, show (p.pc k i).sq = (p.sq k : Int) from rfl]
    by_cases hs : (p.M k).st = (p.M j).st
    · cases hl : (p.M k).lo with
      | true => simp
      | false =>
        have hg' := hg j h1
        rw [if_pos rfl] at hg'
        rw [hg', lead_small (by have := hp.sqb k hk; omega) (by omega)]
        have h3 : ¬ (p.sq k : Int) < inn.getD (p.M k).st.toNat 0 := fun hc => hkD ((h.q k hk hl).2 hc)
        rw [hs, ← hq] at h3
        have h4 : p.sq k ≠ p.sq j := fun he => hkj (hp.sqi k j hk h1 hl hlo hs he)
        simp only [Bool.and_eq_false_iff, decide_eq_false_iff_not]
        right; omega
    · simp [hs]
  have hP : nextP inn ps2 (p.M j).st (p.sq j) = ps2 := by
    unfold nextP withoutG
    rw [List.filter_eq_self]
    intro d hd
    rw [hold d hd]; rfl
  rw [hP]
  refine ⟨h.a, ?_, ?_, ?_, hs2, ?_, ?_, ?_, ?_, ?_⟩
  · rw [List.nodup_append]
    refine ⟨h.dn, by simp, fun a ha' b hb => ?_⟩
    simp at hb; subst hb; rintro rfl; exact hj ha'
  · intro k hk
    rcases List.mem_append.1 hk with hk | hk
    · exact h.dl k hk
    · simp at hk; subst hk; exact h1
  · intro k hk hx i hi
    rcases List.mem_append.1 hk with hk | hk
    · exact h.dA k hk hx i hi
    · simp at hk; subst hk; exact hA hx i hi
  · intro k i hk hi
    rw [hm2 k i hk hi]
    simp only [List.mem_append, List.mem_singleton, not_or, and_assoc]
  · intro k hk hl
    rw [hg k hk, List.mem_append, List.mem_singleton, h.q k hk hl]
    by_cases hs : (p.M k).st = (p.M j).st
    · rw [if_pos hs, hs, ← hq]
      constructor
      · rintro (h | rfl) <;> omega
      · intro h4
        by_cases he : p.sq k = p.sq j
        · exact .inr (hp.sqi k j hk h1 hl hlo hs he)
        · left; omega
    · rw [if_neg hs]
      constructor
      · rintro (h | rfl)
        · exact h
        · exact absurd rfl hs
      · exact .inl
  · intro k hk
    rw [hg k hk]
    split
    · exact ⟨_, rfl, by omega⟩
    · exact h.r k hk
  · intro k hk
    rw [nextI_len]; exact h.st k hk
  · rw [List.pairwise_append]
    refine ⟨h.ord, by simp, fun a ha b hb hla hlb hst' => ?_⟩
    simp at hb; subst hb
    have := (h.q a (h.dl a ha) hla).1 ha
    rw [hst', ← hq] at this
    omega
theorem Plan.wlen {ps : List Dat} {j : Nat} (h1 : j < p.n) (ha : p.all ps j) : (withoutG ps fun d => (p.tsns j).contains d.tsn).length < ps.length :=
  without_len (ha 0 (hp.c1 j h1)) (by
    rw [show (p.pc j 0).tsn = p.t j 0 from rfl, p.in_tsns hp h1 (hp.c1 j h1) h1]; simp)
theorem Plan.del : ∀ (k : Nat) {x : Nat} {inn : List Int} {A ps : List Dat} {D : List Nat} (out : List Msg), p.Inv x inn A D ps → ps.length ≤ k →
    ∃ D', p.Inv x (delG k inn ps out).1 A (D ++ D') (delG k inn ps out).2.1 ∧ (delG k inn ps out).2.2 = out ++ D'.map p.M ∧ dueG (delG k inn ps out).1 (delG k inn ps out).2.1 = none
  | 0, x, inn, A, ps, D, out, h, hl => by
    have : ps = [] := List.length_eq_zero_iff.1 (by omega)
    subst this
    exact ⟨[], by simpa [delG] using h, by simp [delG], rfl⟩
  | k + 1, x, inn, A, ps, D, out, h, hl => by
    rw [delG]
    cases hd : dueG inn ps with
    | none => exact ⟨[], by simpa using h, by simp, hd⟩
    | some r =>
      obtain ⟨m, ns⟩ := r
      obtain ⟨j, h1, ha, rfl, rfl, hq⟩ := p.due_some hp h.s hd
      have hlen := p.wlen hp h1 ha
      simp only
      cases hlo : (p.M j).lo with
      | true =>
        simp only [if_true]
        obtain ⟨D', a, b, c⟩ := Plan.del k (out ++ [p.M j]) (h.loose hp h1 ha hlo) (by omega)
        exact ⟨j :: D', by simpa using a, by rw [b]; simp, c⟩
      | false =>
        simp only [Bool.false_eq_true, if_false]
        have hq' := hq.resolve_left (by rw [hlo]; simp)
        rw [← hq']
        have hA : ∀ i, i < p.c j → p.pc j i ∈ A := fun i hi => ((h.m j i h1 hi).1 (ha i hi)).1
        have hi := h.next hp h1 hlo hq' (fun _ => hA) (withoutG ps fun d => (p.tsns j).contains d.tsn) (p.sub_filter h.s _) (fun k i hk hi => by
          unfold withoutG
          rw [List.mem_filter, h.m k i hk hi]
          have : (p.tsns j).contains (p.pc k i).tsn = decide (k = j) := p.in_tsns hp hk hi h1
          simp only [this, Bool.not_eq_true', decide_eq_false_iff_not])
        have hlen2 : (nextP inn (withoutG ps fun d => (p.tsns j).contains d.tsn) (p.M j).st (p.sq j)).length ≤ _ := List.length_filter_le _ _
        obtain ⟨D', a, b, c⟩ := Plan.del k (out ++ [p.M j]) hi (by omega)
        exact ⟨j :: D', by simpa using a, by rw [b]; simp, c⟩
theorem Plan.take {x : Nat} {inn : List Int} {A ps : List Dat} {D : List Nat} (h : p.Inv x inn A D ps) {j i : Nat} (h1 : j < p.n) (h2 : i < p.c j) (hn : p.pc j i ∉ A) (hj : j ∉ D) :
    ∃ D', p.Inv x (takeG inn ps (p.pc j i)).1 (A ++ [p.pc j i]) (D ++ D') (takeG inn ps (p.pc j i)).2.1 ∧ (takeG inn ps (p.pc j i)).2.2 = D'.map p.M ∧ dueG (takeG inn ps (p.pc j i)).1 (takeG inn ps (p.pc j i)).2.1 = none := by
  have hne : ∀ (L : List Dat), p.Sub L → p.pc j i ∉ L → ∀ y ∈ L, y.tsn ≠ p.t j i := by
    intro L hL hnl y hy he
    obtain ⟨k, i', hk, hi', rfl⟩ := hL.mem y hy
    obtain ⟨rfl, rfl⟩ := hp.ti _ _ _ _ hk hi' h1 h2 he
    exact hnl hy
  have hps : p.pc j i ∉ ps := fun hm => hn ((h.m j i h1 h2).1 hm).1
  have hadd : ∀ (L : List Dat), p.Sub L → p.pc j i ∉ L → p.Sub (L ++ [p.pc j i]) := by
    intro L hL hnl
    refine ⟨fun d hd => ?_, ?_⟩
    · rcases List.mem_append.1 hd with hd | hd
      · exact hL.mem d hd
      · simp at hd; exact ⟨j, i, h1, h2, hd⟩
    · rw [List.map_append, List.nodup_append]
      refine ⟨hL.nd, by simp, fun a ha b hb => ?_⟩
      simp at hb; subst hb
      obtain ⟨y, hy, rfl⟩ := List.mem_map.1 ha
      exact hne L hL hnl y hy
  have hc : (ps.any (fun y => y.tsn == (p.pc j i).tsn) || (!(p.pc j i).lo && decide (lead (p.pc j i).sq (inn.getD (p.pc j i).st.toNat 0) 16 < 0))) = false := by
    rw [Bool.or_eq_false_iff]
    refine ⟨?_, ?_⟩
    · rw [List.any_eq_false]
      intro y hy
      simp only [beq_iff_eq]
      exact hne ps h.s hps y hy
    · rw [show (p.pc j i).lo = (p.M j).lo from rfl, show (p.pc j i).sq = (p.sq j : Int) from rfl, show (p.pc j i).st = (p.M j).st from rfl]
      cases hlo : (p.M j).lo with
      | true => rfl
      | false =>
        obtain ⟨v, hv, hv2⟩ := h.r j h1
        have h3 : ¬ (p.sq j : Int) < inn.getD (p.M j).st.toNat 0 := fun hc => hj ((h.q j h1 hlo).2 hc)
        rw [hv] at h3 ⊢
        rw [lead_small (by have := hp.sqb j h1; omega) (by omega)]
        simp; omega
  unfold takeG
  rw [if_neg (by rw [hc]; simp)]
  have hI : p.Inv x inn (A ++ [p.pc j i]) D (ps ++ [p.pc j i]) := by
    refine ⟨hadd A h.a hn, h.dn, h.dl, fun k hk hx i' hi' => List.mem_append_left _ (h.dA k hk hx i' hi'), hadd ps h.s hps, fun k i' hk hi' => ?_, h.q, h.r, h.st, h.ord⟩
    rw [List.mem_append, List.mem_append, h.m k i' hk hi', List.mem_singleton]
    constructor
    · rintro (⟨a, b⟩ | a)
      · exact ⟨.inl a, b⟩
      · obtain ⟨rfl, rfl⟩ := p.pc_inj hp hk hi' h1 h2 a
        exact ⟨.inr rfl, hj⟩
    · rintro ⟨a | a, b⟩
      · exact .inl ⟨a, b⟩
      · exact .inr a
  obtain ⟨D', a, b, c⟩ := p.del hp (ps.length + 1) [] hI (by simp)
  exact ⟨D', a, by simpa using b, c⟩
end
end Go.Proofs.Ytfhhbkehlfipgaa
end

section
set_option linter.unusedSimpArgs false
set_option linter.unusedVariables false
set_option linter.unnecessarySimpa false
set_option linter.unusedSectionVars false
namespace Go.Tx
open Go.Sx (lt_of_get)
set_option linter.unusedSimpArgs false
set_option linter.unusedVariables false
theorem Con.frozen {P : Program} {f : FuncId} {args : List PV} {F : SF} {L nx k top : Nat} {v0 v : PV} {upd : List (Nm × SBlk)} {rd : List Nm} (h : Con P f args F (L + 1) k top v0 upd rd) (hk : ∀ n ∈ keys upd, n.l = L + 1) (hw : ∀ F : SF, Wk (F.upd upd) v0 v) (hn : ∀ n ∈ wkN v0 v, n.l = L + 1) (hf : nf v = true) : Con P f args F L nx nx v [] rd := by
  refine ⟨Nat.le_refl _, fun F2 hF2 E w args' hR _ hdp hv => ?_⟩
  have hL := h.2 F2 hF2 E w args' hR (fun k _ _ => hdp _ (by simp)) (fun n hn => hdp n (by omega)) hv
  have conv : ∀ v' w', CGives E F2 w (L + 1) k top v0 upd v' w' → CGives E F2 w L nx nx v [] v' w' := by
    rintro v' w' ⟨E1, q1, q2, q3⟩
    have hll : ∀ n b, F2 n = some b → b.live = true → n.l ≤ L := by
      intro n b hb hl
      obtain ⟨i, hi⟩ := (hR.blk n b hb).def_ hl
      rcases Nat.lt_or_ge L n.l with h | h
      · rw [hdp n h] at hi; cases hi
      · exact h
    let Fm : SF := fun n => if n.l ≤ L then (F2.upd upd) n else none
    have hm : SLe Fm (F2.upd upd) := by
      intro n b hb
      simp only [Fm] at hb
      split at hb
      · exact .inr (.inl hb)
      · cases hb
    have hG : ∀ n : Nm, n.l ≤ L → (F2.upd upd) n = F2 n := fun n hl => by rw [upd_eq, setAll_not (fun hk' => by have := hk n hk'; omega)]
    have hEE : ∀ n i, E n = some i → E1 n = some i ∧ E n = some i := fun n i h => ⟨q2.le n i h, h⟩
    have hzone : ∀ q, Zn E1 Fm w' q → Zn E F2 w' q := by
      rintro q ⟨k1, k2⟩
      refine ⟨k1, fun n b i hn ho hi hz he => ?_⟩
      have hl := hll n b hn (live_of_own ho)
      exact k2 n b i (by simp only [Fm]; rw [if_pos hl, hG n hl]; exact hn) ho (q2.le n i hi) hz he
    have hSm := StepR.less q2.rel hm
    have hzone' : ∀ q, Zn E1 (F2.upd upd) w' q → Zn E F2 w' q := fun q hq => hzone q (hSm.ext.zone q hq)
    have hEx : Ext Env.no w' (Zn E1 Fm w') Env.no w' (Zn E F2 w') := ⟨Env.le.refl _, hzone, fun _ _ => rfl⟩
    have hrel : HRel E F2 w' := by
      refine ⟨fun n b hn => ?_, fun n m b d i j hn hm' hnm ho hl hi hj hin hjn => ?_⟩
      · by_cases hl : b.live = true
        · have h1 := hll n b hn hl
          have := BRel.back hEE (hR.blk n b hn) (q2.rel.blk n b ((hG n h1).trans hn))
          exact this.mono ⟨Env.le.refl _, hzone', fun _ _ => rfl⟩ fun _ _ _ => rfl
        · cases b <;> first | trivial | exact absurd rfl hl
      · exact q2.rel.sep n m b d i j ((hG n (hll n b hn (live_of_own ho))).trans hn) ((hG m (hll m d hm' hl)).trans hm') hnm ho hl (q2.le _ _ hi) (q2.le _ _ hj) hin hjn
    have hstep : StepR E F2 w E F2 w' := ⟨Env.le.refl _, hrel, q2.os, q2.tape, q2.output, q2.size, q2.keep, fun n b i hn ho hi hin => q2.own n b i ((hG n (hll n b hn (live_of_own ho))).trans hn) ho (q2.le _ _ hi) hin⟩
    have hx := wk_vr q2.rel hm v0 v v' (hw F2) (fun n hn' b hb => by
      have := hn n hn'
      simp only [Fm] at hb
      rw [if_neg (by omega)] at hb; cases hb) q1
    have hy := VR.mono hEx _ _ (VR.nf v v' hf hx)
    exact ⟨E, VR.mono ⟨fun n i h => (by cases h), fun _ h => h, fun _ _ => rfl⟩ _ _ hy, hstep, fun n h1 h2 => absurd h1 h2⟩
  unfold Lands Sx.Lands at hL ⊢
  split at hL
  · exact conv _ _ hL
  · exact conv _ _ hL
  · intro cs
    obtain ⟨e, w', fr, ⟨v', he, hK⟩, hrest⟩ := hL cs
    exact ⟨e, w', fr, ⟨v', he, conv _ _ hK⟩, hrest⟩
  · exact hL
end Go.Tx
end
