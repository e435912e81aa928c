/- Lemmas for the walk: C35, C36, C37. -/
import Derived.Test.YtfhhbkehlfipgaaTxF
import Derived.Test.YtfhhbkehlfipgaaCxC
import Derived.Test.YtfhhbkehlfipgaaCxJ
import Derived.Test.YtfhhbkehlfipgaaCxL
import Derived.Test.YtfhhbkehlfipgaaCxH
section
set_option linter.unusedSimpArgs false
set_option linter.unusedVariables false
set_option linter.unnecessarySimpa false
set_option linter.unusedSectionVars false
namespace Go.Proofs.Ytfhhbkehlfipgaa
open Go.Tx
set_option maxRecDepth 100000
set_option maxHeartbeats 4000000
set_option linter.unusedSimpArgs false
set_option linter.unusedVariables false
/-! streams.Send, seen with trees -/
def sendD (st pr sq : Int) (lo : Bool) (s : List UInt8) (n : Nat) : List Dat := (List.range n).map fun i => ⟨0, st, sq, pr, i == 0, i + 1 == n, lo, pieceS s i⟩
theorem sendD_row (st pr sq : Int) (lo : Bool) (s : List UInt8) (n : Nat) : (sendD st pr sq lo s n).map Dat.row = piecesS st pr sq lo s n := by
  simp only [sendD, piecesS, List.map_map]; rfl
theorem sendD_len (st pr sq : Int) (lo : Bool) (s : List UInt8) (n : Nat) : (sendD st pr sq lo s n).length = n := by simp [sendD]
theorem outS_len (out : List Int) (st : Nat) (lo : Bool) : (outS out st lo).length = out.length := by unfold outS; split <;> simp
theorem sendF_ok {F : SF} {L nx : Nat} (out inn : List Int) (num : Int) (ho : 1 ≤ out.length) (ho2 : out.length ≤ 16) (ho3 : out.all (serB 16) = true) (hi : 1 ≤ inn.length) (hi2 : inn.length ≤ 16) (hi3 : inn.all (serB 16) = true)
    (hn : [num].all (serB 32) = true) (st : Nat) (pr : Int) (lo : Bool) (s : List UInt8) (hst : st < out.length) (hpr : [pr].all (serB 32) = true) (hs1 : 1 ≤ s.length) (hs2 : s.length ≤ 8000) :
    Con Try.prog 12 [strV out inn num (-1) [] [], .agg [.int .i64 st, .int .i64 pr, .bool lo, .str s]] F L nx nx (.tup [strV (outS out st lo) inn num (-1) [] [], .fs 8 ((sendD st pr (seqS out st lo) lo s ((s.length + 999) / 1000)).map Dat.row), .int .i64 0]) [] [] := by
  have h := send0_ok (F := F) (L := L + 1) (nx := 0) out inn num ho ho2 ho3 hi hi2 hi3 hn st pr lo s hst hpr hs1 hs2
  have e1 := outS_len out st lo
  have e2 : (piecesS st pr (seqS out st lo) lo s ((s.length + 999) / 1000)).length = (s.length + 999) / 1000 := by simp [piecesS]
  rw [sendD_row]
  refine Con.frozen h (by simp [keys]) (fun F => ?_) ?_ ?_
  · simp [strV, Wk, WkL, SF.upd, SF.set, e1, e2, List.take_of_length_le]
  · simp [strV, wkN, wkNL]
  · simp [strV, Tx.nf, nfl]
end Go.Proofs.Ytfhhbkehlfipgaa
end

section
set_option linter.unusedSimpArgs false
set_option linter.unusedVariables false
set_option linter.unnecessarySimpa false
set_option linter.unusedSectionVars false
namespace Go.Proofs.Ytfhhbkehlfipgaa
open Go.Tx
set_option maxRecDepth 100000
set_option maxHeartbeats 16000000
set_option linter.unusedSimpArgs false
set_option linter.unusedVariables false
/-! streams.New; comes -/
theorem new_ok {F : SF} {L nx : Nat} (n m : Nat) (hn : 1 ≤ n) (hn2 : n ≤ 16) (hm : 1 ≤ m) (hm2 : m ≤ 16) :
    Con Try.prog 20 [.int .i64 n, .int .i64 m] F L nx nx (.tup [strV (zrs n) (zrs m) 0 (-1) [] [], .int .i64 0]) [] [] := by
  have f1 : decide ((n : Int) < 1) = false := dF (by omega)
  have f2 : decide ((16 : Int) < (n : Int)) = false := dF (by omega)
  have f3 : decide ((m : Int) < 1) = false := dF (by omega)
  have f4 : decide ((16 : Int) < (m : Int)) = false := dF (by omega)
  refine Con.body (cxOk (L + 1)) rfl rfl (fn := Try.f20) (c := Try.f20.body.getD .skip) (by kernel_rfl) (by rfl) (by kernel_rfl) rfl (by simp) ?_
  intro F3 hF1 hF2
  simp only [Try.f20, cx, strV, f1, f2, f3, f4, nm_beq, Nat.reduceBEq, nB, nB', nS2, nS2', Nat.add_assoc, Nat.reduceAdd, Nat.add_zero, go_sem, Meths.get, meths, Nat.reduceSub, Nat.reduceAdd, Nat.reduceMul, Nat.reduceEqDiff, Nat.reduceLT, Nat.reduceLeDiff, Nat.reduceBEq, Nat.reduceBNe, reduceIte, reduceCtorEq, Int.reduceToNat, String.reduceEq]
  repeat refine And.intro (by first | omega | exact ⟨by omega, by omega⟩ | exact ⟨by omega, by omega, by omega⟩ | exact ⟨⟨by omega, by omega⟩, by omega, by omega⟩ | exact okDyn_num (fun x => x.i) (by kernel_rfl) | kernel_rfl | exact okDyn_num (fun _ => 0) (by kernel_rfl)) ?_
  exact PostF.of (p := True) (v0 := .tup [.agg [.sl ⟨L + 1, 544⟩ 0 n, .sl ⟨L + 1, 608⟩ 0 m, .nilS, .int .i64 0, .int .i64 (-1), .nilS], .int .i64 0] ) (.inr rfl) (by simp only [resVal, resVals, resVal1, one, Nat.add_zero, go_sem, Meths.get, meths, Nat.reduceSub, Nat.reduceAdd, Nat.reduceMul, Nat.reduceEqDiff, Nat.reduceLT, Nat.reduceLeDiff, Nat.reduceBEq, Nat.reduceBNe, reduceIte, reduceCtorEq, Int.reduceToNat, String.reduceEq]) trivial (by simp [Wk, WkL, Tx.look, List.take_of_length_le, nB, nB', zrs, eI]) (by simp [wkN, wkNL]) (by simp [Tx.nf, nfl]) trivial (by simp [UpdAll, keys])
theorem strV_def (out inn : List Int) (num seen : Int) (asked : List Int) (ps : List Dat) : strV out inn num seen asked ps = .agg [.fs 1 (out.map eI), .fs 1 (inn.map eI), .fs 8 (ps.map Dat.row), .int .i64 num, .int .i64 seen, .fs 1 (asked.map eI)] := rfl
structure ComX where
  i : Nat
  q : Nat
  inn : List Int
  ps : List Dat
  out : List Msg
def comI (out inn : List Int) (num seen : Int) (asked : List Int) (ps : List Dat) (l : List Dat) (z : ComX) : Prop :=
  z.i ≤ l.length ∧ Str0 out z.inn num seen asked ∧ z.inn.length = inn.length ∧ PsOk z.inn z.ps ∧ dueG z.inn z.ps = none ∧ z.ps.length ≤ ps.length + z.i ∧ z.out.length ≤ 81 * z.i ∧ comesG z.inn z.ps (l.drop z.i) z.out = comesG inn ps l [] ∧ 160 ≤ z.q ∧ z.q < 10000 * (z.i + 1)
theorem delG_out : ∀ (k : Nat) (inn : List Int) (ps : List Dat) (out : List Msg), (delG k inn ps out).2.2.length ≤ k + out.length
  | 0, _, _, _ => by simp [delG]
  | k + 1, inn, ps, out => by
    rw [delG]
    split
    · simp
    · rename_i m ns _
      simp only
      split
      · refine Nat.le_trans (delG_out k _ _ _) (by simp; omega)
      · refine Nat.le_trans (delG_out k _ _ _) (by simp; omega)
theorem takeG_out (inn : List Int) (ps : List Dat) (d : Dat) : (takeG inn ps d).2.2.length ≤ ps.length + 1 := by
  unfold takeG
  split
  · simp
  · exact Nat.le_trans (delG_out _ _ _ _) (by simp)
theorem comes_ok {F : SF} {L nx : Nat} (out inn asked : List Int) (num seen : Int) (hS : Str0 out inn num seen asked) (ps : List Dat) (hP : PsOk inn ps) (hD : dueG inn ps = none) (l : List Dat) (hl : ∀ d ∈ l, d.ok = true ∧ d.st < inn.length) (hlen : ps.length + l.length ≤ 80) :
    Con Try.prog 22 [strV out inn num seen asked ps, .fs 8 (l.map Dat.row)] F L nx nx (.tup [strV out (comesG inn ps l []).1 num seen asked (comesG inn ps l []).2.1, .fs 4 ((comesG inn ps l []).2.2.map Msg.row), .bool true]) [] [] := by
  have f0 : ((0 : Int) != 0) = false := rfl
  refine Con.body (cxOk (L + 1)) rfl rfl (fn := Try.f22) (c := Try.f22.body.getD .skip) (by kernel_rfl) (by rfl) (by kernel_rfl) rfl (by simp) ?_
  intro F3 hF1 hF2
  simp only [Try.f22, cx, strV, nm_beq, Nat.reduceBEq, nB, nB', nS2, nS2', Nat.add_assoc, Nat.reduceAdd, List.length_map, Nat.add_zero, go_sem, Meths.get, meths, Nat.reduceSub, Nat.reduceAdd, Nat.reduceMul, Nat.reduceEqDiff, Nat.reduceLT, Nat.reduceLeDiff, Nat.reduceBEq, Nat.reduceBNe, reduceIte, reduceCtorEq, Int.reduceToNat, String.reduceEq]
  refine loopK.intro _ _ (I := fun z : ComX => ⟨[none, none, some (.ptr ⟨L + 1, 0⟩ 0 0), none, some (.ptr ⟨L + 1, 32⟩ 0 0), none, none, some (.sl ⟨L + 1, z.q⟩ 0 z.out.length), none, none, none, none, none, some (.fs 8 (l.map Dat.row)), some (.int .i64 l.length), some (.int .i64 z.i), none, none, none, none, none, none, none, none, none, none, none, none, none, none, none, none, none, none, none, none, none, none, none, none, none],
    [(⟨L + 1, 0⟩, .rows 34 6 true true [[.fs 1 (out.map eI), .fs 1 (z.inn.map eI), .fs 8 (z.ps.map Dat.row), .int .i64 num, .int .i64 seen, .fs 1 (asked.map eI)]]), (⟨L + 1, 32⟩, .rows 34 6 true true [[.nilS, .nilS, .nilS, .int .i64 0, .int .i64 0, .nilS]]), (⟨L + 1, z.q⟩, .rows 37 4 true true (z.out.map Msg.row))], 10000 * (z.i + 1)⟩)
    (pre := comI out inn num seen asked ps l) (μ := fun z => l.length - z.i) ⟨0, 256, inn, ps, []⟩ ⟨by simp, hS, rfl, hP, hD, by simp, by simp, rfl, by simp, by simp⟩ ?_ ?_
  · refine Sub.trans (Sub.nilName 7 37 (wd := 4) (by omega) rfl) ?_
    refine Sub.of (fun n hn => hF2 n (by have : n.l = L + 1 := hn; omega)) (by simp only [List.length_nil, go_sem, resVal, resVals, resVal1, one, Wk, WkL, WkLL, wkN, wkNL, wkNLL, UpdIn, UpdAll, BW, plainP, plainPL, subT, subH, subK, and_self, true_or, or_true, List.not_mem_nil, List.mem_cons, forall_eq, imp_self, implies_true, Nat.reduceSub, Nat.reduceAdd, Nat.reduceMul, Nat.reduceEqDiff, Nat.reduceLT, Nat.reduceLeDiff, Nat.reduceBEq, Nat.reduceBNe, reduceIte, reduceCtorEq, Int.reduceToNat, String.reduceEq, Int.natCast_zero]) ?_ (by simp [subK, keys, updH, setH]) (by simp)
    simp [subH, Tx.look, updH, setH]
  · rintro ⟨i, q, inn1, ps1, out1⟩ ⟨h1, h2, h3, h4, h5, h6, h7, h8, k1, k2⟩
    simp only at h1 h2 h3 h4 h5 h6 h7 h8 k1 k2 ⊢
    have q_0 : (q = 0) = False := by apply eq_false; omega
    have n0_q : (0 = q) = False := by apply eq_false; omega
    have q_32 : (q = 32) = False := by apply eq_false; omega
    have n32_q : (32 = q) = False := by apply eq_false; omega
    have q_n1 : ∀ kk, (10000 * (i + 1) + kk = q) = False := fun kk => by apply eq_false; omega
    have q_n2 : ∀ kk, (q = 10000 * (i + 1) + kk) = False := fun kk => by apply eq_false; omega
    have q_n3 : (10000 * (i + 1) = q) = False := by apply eq_false; omega
    have q_n4 : (q = 10000 * (i + 1)) = False := by apply eq_false; omega
    have q_n5 : ∀ kk, ((⟨L + 1, q⟩ : Nm) == ⟨L + 1, 10000 * (i + 1) + kk⟩) = false := fun kk => by simp; omega
    by_cases hlt : i < l.length
    · have f1 : decide ((i : Int) < (l.length : Int)) = true := dT (by omega)
      have r0 := rowD' hlt
      obtain ⟨d, hd⟩ : ∃ d, d = l[i] := ⟨_, rfl⟩
      obtain ⟨e1, e2⟩ := hl d (by rw [hd]; exact List.getElem_mem hlt)
      rw [← hd] at r0
      rw [List.drop_eq_getElem_cons hlt, ← hd, comesG] at h8
      have hv := takeG_valid h4 h5 h2.i3 (d := d) (by omega) e1 (by omega)
      have hle := takeG_le inn1 ps1 d
      have hol := takeG_out inn1 ps1 d
      have hln := takeG_len inn1 ps1 d
      have hp80 := h4.len
      have htk := fun F L nx => take_ok (F := F) (L := L) (nx := nx) out inn1 asked num seen h2 ps1 h4 h5 d e1 (by omega) (by omega)
      obtain ⟨r, hr⟩ : ∃ r, r = takeG inn1 ps1 d := ⟨_, rfl⟩
      rw [← hr] at hv hle hol hln h8
      have hS2 := h2.inn hln hv.2.2
      have hck := fun F L nx => check_ok (F := F) (L := L) (nx := nx) out r.1 asked num seen hS2 r.2.1 hv.1 hv.2.1
      simp only [← hr] at htk
      simp only [strV, Dat.row] at htk
      simp only [strV] at hck
      simp only [f1, r0, Dat.row, nm_beq, Nat.reduceBEq, nB, nB', nS2, nS2', Nat.add_assoc, Nat.reduceAdd, q_0, n0_q, q_32, n32_q, q_n1, q_n2, q_n3, q_n4, q_n5, List.length_map, Nat.add_zero, go_sem, Meths.get, meths, Nat.reduceSub, Nat.reduceAdd, Nat.reduceMul, Nat.reduceEqDiff, Nat.reduceLT, Nat.reduceLeDiff, Nat.reduceBEq, Nat.reduceBNe, reduceIte, reduceCtorEq, Int.reduceToNat, String.reduceEq]
      repeat refine And.intro (by first | omega | exact ⟨by omega, by omega⟩ | exact ⟨by omega, by omega, by omega⟩ | exact ⟨⟨by omega, by omega⟩, by omega, by omega⟩ | exact okDyn_num (fun x => x.i) (by kernel_rfl) | kernel_rfl | exact okDyn_num (fun _ => 0) (by kernel_rfl)) ?_
      refine CallVC.same (htk _ _ _) ?_
      simp only [f0, Dat.row, nm_beq, Nat.reduceBEq, nB, nB', nS2, nS2', Nat.add_assoc, Nat.reduceAdd, q_0, n0_q, q_32, n32_q, q_n1, q_n2, q_n3, q_n4, q_n5, List.length_map, Nat.add_zero, go_sem, Meths.get, meths, Nat.reduceSub, Nat.reduceAdd, Nat.reduceMul, Nat.reduceEqDiff, Nat.reduceLT, Nat.reduceLeDiff, Nat.reduceBEq, Nat.reduceBNe, reduceIte, reduceCtorEq, Int.reduceToNat, String.reduceEq]
      repeat refine And.intro (by first | omega | exact ⟨by omega, by omega⟩ | exact ⟨by omega, by omega, by omega⟩ | exact ⟨⟨by omega, by omega⟩, by omega, by omega⟩ | exact okDyn_num (fun x => x.i) (by kernel_rfl) | kernel_rfl | exact okDyn_num (fun _ => 0) (by kernel_rfl)) ?_
      refine CallVC.same (hck _ _ _) ?_
      simp only [f0, Dat.row, nm_beq, Nat.reduceBEq, nB, nB', nS2, nS2', Nat.add_assoc, Nat.reduceAdd, q_0, n0_q, q_32, n32_q, q_n1, q_n2, q_n3, q_n4, q_n5, List.length_map, Nat.add_zero, go_sem, Meths.get, meths, Nat.reduceSub, Nat.reduceAdd, Nat.reduceMul, Nat.reduceEqDiff, Nat.reduceLT, Nat.reduceLeDiff, Nat.reduceBEq, Nat.reduceBNe, reduceIte, reduceCtorEq, Int.reduceToNat, String.reduceEq]
      refine ⟨by kernel_rfl, ⟨by omega, by omega⟩, okDyn_num (fun x => if x.i = q then 1 else x.i % 10000 + 100) (by simp only [numF, List.map, q_0, n0_q, q_32, n32_q, q_n1, q_n2, q_n3, q_n4, q_n5, if_true, if_false, Nat.mul_add_mod, Nat.reduceMod]; kernel_rfl), ⟨by omega, by omega⟩, ⟨i + 1, 10000 * (i + 1) + 768, r.1, r.2.1, out1 ++ r.2.2⟩, ⟨by simp only []; omega, hS2, by simp only []; omega, hv.1, hv.2.1, by simp only []; omega, by simp; omega, h8, by simp only []; omega, by simp only []; omega⟩, by simp only []; omega, ?_⟩
      refine Sub.of (fun n hn => hF2 n (by have : n.l = L + 1 := hn; omega)) (by simp only [List.length_append, go_sem, resVal, resVals, resVal1, one, Wk, WkL, WkLL, wkN, wkNL, wkNLL, UpdIn, UpdAll, BW, plainP, plainPL, subT, subH, subK, and_self, true_or, or_true, List.not_mem_nil, List.mem_cons, forall_eq, imp_self, implies_true, Nat.reduceSub, Nat.reduceAdd, Nat.reduceMul, Nat.reduceEqDiff, Nat.reduceLT, Nat.reduceLeDiff, Nat.reduceBEq, Nat.reduceBNe, reduceIte, reduceCtorEq, Int.reduceToNat, String.reduceEq, Int.natCast_succ]) ?_ (by simp [subK, keys]) (by simp only []; omega)
      simp [subH, Tx.look, nm_beq, Nat.reduceBEq, nB, nB', nS2, nS2', Nat.add_assoc, Nat.reduceAdd, q_0, n0_q, q_32, n32_q, q_n1, q_n2, q_n3, q_n4, q_n5]
    · have f1 : decide ((i : Int) < (l.length : Int)) = false := dF (by omega)
      have e : i = l.length := by omega
      subst e
      rw [List.drop_of_length_le (Nat.le_refl _), comesG] at h8
      rw [← h8]
      simp only [f1, nm_beq, Nat.reduceBEq, nB, nB', nS2, nS2', Nat.add_assoc, Nat.reduceAdd, q_0, n0_q, q_32, n32_q, q_n1, q_n2, q_n3, q_n4, q_n5, List.length_map, Nat.add_zero, go_sem, Meths.get, meths, Nat.reduceSub, Nat.reduceAdd, Nat.reduceMul, Nat.reduceEqDiff, Nat.reduceLT, Nat.reduceLeDiff, Nat.reduceBEq, Nat.reduceBNe, reduceIte, reduceCtorEq, Int.reduceToNat, String.reduceEq]
      exact PostF.of (p := True) (v0 := .tup [.agg [.fs 1 (out.map eI), .fs 1 (inn1.map eI), .fs 8 (ps1.map Dat.row), .int .i64 num, .int .i64 seen, .fs 1 (asked.map eI)], .sl ⟨L + 1, q⟩ 0 out1.length, .bool true] ) (.inr rfl) (by simp only [resVal, resVals, resVal1, one, Nat.add_zero, go_sem, Meths.get, meths, Nat.reduceSub, Nat.reduceAdd, Nat.reduceMul, Nat.reduceEqDiff, Nat.reduceLT, Nat.reduceLeDiff, Nat.reduceBEq, Nat.reduceBNe, reduceIte, reduceCtorEq, Int.reduceToNat, String.reduceEq]) trivial (by simp [Wk, WkL, Tx.look, List.take_of_length_le, nB, nB', q_0, q_32, n0_q, n32_q]) (by simp [wkN, wkNL]) (by simp [Tx.nf, nfl]) trivial (by simp [UpdAll, keys])
end Go.Proofs.Ytfhhbkehlfipgaa
end

section
set_option linter.unusedSimpArgs false
set_option linter.unusedVariables false
set_option linter.unnecessarySimpa false
set_option linter.unusedSectionVars false
namespace Go.Proofs.Ytfhhbkehlfipgaa
open Go.Tx
set_option maxRecDepth 100000
set_option maxHeartbeats 16000000
set_option linter.unusedSimpArgs false
set_option linter.unusedVariables false
/-! numbered; SameMessages -/
def stamp (f : Int) (k : Nat) (ds : List Dat) (j : Nat) : Dat := { ds.getD j datZ with tsn := (f + ((k + j : Nat) : Int)) % 4294967296 }
def stampL (f : Int) (k : Nat) (ds : List Dat) (j : Nat) : List Dat := (List.range j).map (stamp f k ds)
def cutsM (out : List Int) (m : Msg) : List Dat := sendD m.st m.pr (seqS out m.st.toNat m.lo) m.lo m.tx ((m.tx.length + 999) / 1000)
def numG (f : Int) : List Int → List Msg → List Dat → List Int × List Dat
  | out, [], acc => (out, acc)
  | out, m :: l, acc => numG f (outS out m.st.toNat m.lo) l (acc ++ stampL f acc.length (cutsM out m) (cutsM out m).length)
def MsgOk (n : Nat) (m : Msg) : Prop := 0 ≤ m.st ∧ m.st < n ∧ [m.pr].all (serB 32) = true ∧ 1 ≤ m.tx.length ∧ m.tx.length ≤ 8000
theorem stampL_len (f : Int) (k : Nat) (ds : List Dat) (j : Nat) : (stampL f k ds j).length = j := by simp [stampL]
theorem outS_ser {out : List Int} (h : out.all (serB 16) = true) (st : Nat) (lo : Bool) : (outS out st lo).all (serB 16) = true := by
  unfold outS
  split
  · exact h
  · have h16 : (2 : Int) ^ (Int.toNat 16) = 65536 := rfl
    rw [List.all_eq_true] at h ⊢
    intro x hx
    rcases List.mem_or_eq_of_mem_set hx with hx | rfl
    · exact h x hx
    · simp only [serB, h16, Bool.and_eq_true, decide_eq_true_eq]; omega
structure NumX where
  k : Nat
  i : Nat
  q : Nat
  out : List Int
  acc : List Dat
structure NumY where
  j : Nat
  i : Nat
  q : Nat
def numI (f : Int) (out : List Int) (l : List Msg) (z : NumX) : Prop :=
  z.k ≤ l.length ∧ z.out.length = out.length ∧ z.out.all (serB 16) = true ∧ z.acc.length ≤ 8 * z.k ∧ numG f z.out (l.drop z.k) z.acc = numG f out l [] ∧ 192 ≤ z.q ∧ z.q < 10000 * (z.i + 1)
theorem numbered_ok {F : SF} {L nx : Nat} (out inn : List Int) (num : Int) (ho : 1 ≤ out.length) (ho2 : out.length ≤ 16) (ho3 : out.all (serB 16) = true) (hi : 1 ≤ inn.length) (hi2 : inn.length ≤ 16) (hi3 : inn.all (serB 16) = true)
    (hn : [num].all (serB 32) = true) (l : List Msg) (hl : ∀ m ∈ l, MsgOk out.length m) (hlen : l.length ≤ 1000) (f : Int) (hf0 : 0 ≤ f) (hf1 : f < 1099511627776) :
    Con Try.prog 21 [strV out inn num (-1) [] [], .fs 4 (l.map Msg.row), .int .i64 f] F L nx nx (.tup [strV (numG f out l []).1 inn num (-1) [] [], .fs 8 ((numG f out l []).2.map Dat.row), .bool true]) [] [] := by
  have f0 : ((0 : Int) != 0) = false := rfl
  refine Con.body (cxOk (L + 1)) rfl rfl (fn := Try.f21) (c := Try.f21.body.getD .skip) (by kernel_rfl) (by rfl) (by kernel_rfl) rfl (by simp) ?_
  intro F3 hF1 hF2
  simp only [Try.f21, cx, strV, nm_beq, Nat.reduceBEq, nB, nB', nS2, nS2', Nat.add_assoc, Nat.reduceAdd, List.length_map, List.map_nil, Nat.add_zero, go_sem, Meths.get, meths, Nat.reduceSub, Nat.reduceAdd, Nat.reduceMul, Nat.reduceEqDiff, Nat.reduceLT, Nat.reduceLeDiff, Nat.reduceBEq, Nat.reduceBNe, reduceIte, reduceCtorEq, Int.reduceToNat, String.reduceEq]
  refine loopK.intro _ _ (I := fun z : NumX => ⟨[none, none, some (.int .i64 f), some (.ptr ⟨L + 1, 0⟩ 0 0), none, none, some (.ptr ⟨L + 1, 32⟩ 0 0), none, none, some (.sl ⟨L + 1, z.q⟩ 0 z.acc.length), none, none, none, none, none, none, none, some (.fs 4 (l.map Msg.row)), some (.int .i64 l.length), some (.int .i64 z.k), none, none, none, none, none, none, none, none, none, none, none, none, none, none, none, none, none, none, none, none, none, none, none, none, none, none, none, none, none, none, none, none, none, none, none, none, none, none, none],
    [(⟨L + 1, 0⟩, .rows 34 6 true true [[.fs 1 (z.out.map eI), .fs 1 (inn.map eI), .fs 8 [], .int .i64 num, .int .i64 (-1), .fs 1 []]]), (⟨L + 1, 32⟩, .rows 34 6 true true [[.nilS, .nilS, .nilS, .int .i64 0, .int .i64 0, .nilS]]), (⟨L + 1, z.q⟩, .rows 43 8 true true (z.acc.map Dat.row))], 10000 * (z.i + 1)⟩)
    (pre := numI f out l) (μ := fun z => l.length - z.k) ⟨0, 0, 256, out, []⟩ ⟨by simp, rfl, ho3, by simp, rfl, by simp, by simp⟩ ?_ ?_
  · refine Sub.trans (Sub.nilName 9 43 (wd := 8) (by omega) rfl) ?_
    refine Sub.of (fun n hn => hF2 n (by have : n.l = L + 1 := hn; omega)) (by simp only [List.length_nil, go_sem, resVal, resVals, resVal1, one, Wk, WkL, WkLL, wkN, wkNL, wkNLL, UpdIn, UpdAll, BW, plainP, plainPL, subT, subH, subK, and_self, true_or, or_true, List.not_mem_nil, List.mem_cons, forall_eq, imp_self, implies_true, Nat.reduceSub, Nat.reduceAdd, Nat.reduceMul, Nat.reduceEqDiff, Nat.reduceLT, Nat.reduceLeDiff, Nat.reduceBEq, Nat.reduceBNe, reduceIte, reduceCtorEq, Int.reduceToNat, String.reduceEq, Int.natCast_zero]) ?_ (by simp [subK, keys, updH, setH]) (by simp)
    simp [subH, Tx.look, updH, setH]
  · rintro ⟨k, i, q, out1, acc⟩ ⟨h1, h2, h3, h4, h5, k1, k2⟩
    simp only at h1 h2 h3 h4 h5 k1 k2 ⊢
    have q_0 : (q = 0) = False := by apply eq_false; omega
    have n0_q : (0 = q) = False := by apply eq_false; omega
    have q_32 : (q = 32) = False := by apply eq_false; omega
    have n32_q : (32 = q) = False := by apply eq_false; omega
    have q_n1 : ∀ kk, (10000 * (i + 1) + kk = q) = False := fun kk => by apply eq_false; omega
    have q_n2 : ∀ kk, (q = 10000 * (i + 1) + kk) = False := fun kk => by apply eq_false; omega
    have q_n3 : (10000 * (i + 1) = q) = False := by apply eq_false; omega
    have q_n4 : (q = 10000 * (i + 1)) = False := by apply eq_false; omega
    have q_n5 : ∀ kk, ((⟨L + 1, q⟩ : Nm) == ⟨L + 1, 10000 * (i + 1) + kk⟩) = false := fun kk => by simp; omega
    by_cases hlt : k < l.length
    · have f1 : decide ((k : Int) < (l.length : Int)) = true := dT (by omega)
      have r0 : (l.map Msg.row).getD k [] = l[k].row := by simp [hlt, List.getD_eq_getElem?_getD]
      obtain ⟨m, hm⟩ : ∃ m, m = l[k] := ⟨_, rfl⟩
      obtain ⟨e1, e2, e3, e4, e5⟩ := hl m (by rw [hm]; exact List.getElem_mem hlt)
      rw [← hm] at r0
      rw [List.drop_eq_getElem_cons hlt, ← hm, numG] at h5
      have est : ((m.st.toNat : Nat) : Int) = m.st := by omega
      have hsd := fun F L nx => sendF_ok (F := F) (L := L) (nx := nx) out1 inn num (by omega) (by omega) h3 hi hi2 hi3 hn m.st.toNat m.pr m.lo m.tx (by omega) e3 e4 e5
      rw [est] at hsd
      obtain ⟨ds, hds⟩ : ∃ ds, ds = cutsM out1 m := ⟨_, rfl⟩
      have hdl : ds.length = (m.tx.length + 999) / 1000 := by rw [hds, cutsM, sendD_len]
      have hdl1 : 1 ≤ ds.length ∧ ds.length ≤ 8 := by omega
      rw [← hds] at h5
      rw [show sendD m.st m.pr (seqS out1 m.st.toNat m.lo) m.lo m.tx ((m.tx.length + 999) / 1000) = ds from hds.symm] at hsd
      obtain ⟨out2, hout2⟩ : ∃ x, x = outS out1 m.st.toNat m.lo := ⟨_, rfl⟩
      have ho2l : out2.length = out1.length := by rw [hout2]; exact outS_len _ _ _
      have ho2s : out2.all (serB 16) = true := by rw [hout2]; exact outS_ser h3 _ _
      simp only [← hout2, strV, List.map_nil] at hsd
      rw [← hout2] at h5
      simp only [f1, r0, Msg.row, nm_beq, Nat.reduceBEq, nB, nB', nS2, nS2', Nat.add_assoc, Nat.reduceAdd, q_0, n0_q, q_32, n32_q, q_n1, q_n2, q_n3, q_n4, q_n5, List.length_map, Nat.add_zero, go_sem, Meths.get, meths, Nat.reduceSub, Nat.reduceAdd, Nat.reduceMul, Nat.reduceEqDiff, Nat.reduceLT, Nat.reduceLeDiff, Nat.reduceBEq, Nat.reduceBNe, reduceIte, reduceCtorEq, Int.reduceToNat, String.reduceEq]
      repeat refine And.intro (by first | omega | exact ⟨by omega, by omega⟩ | exact ⟨by omega, by omega, by omega⟩ | exact ⟨⟨by omega, by omega⟩, by omega, by omega⟩ | exact okDyn_num (fun x => x.i) (by kernel_rfl) | kernel_rfl | exact okDyn_num (fun _ => 0) (by kernel_rfl)) ?_
      refine CallVC.same (hsd _ _ _) ?_
      have f2 : ((ds.length : Int) == 0) = false := eqF (by omega)
      simp only [f0, f2, Msg.row, nm_beq, Nat.reduceBEq, nB, nB', nS2, nS2', Nat.add_assoc, Nat.reduceAdd, q_0, n0_q, q_32, n32_q, q_n1, q_n2, q_n3, q_n4, q_n5, List.length_map, Nat.add_zero, go_sem, Meths.get, meths, Nat.reduceSub, Nat.reduceAdd, Nat.reduceMul, Nat.reduceEqDiff, Nat.reduceLT, Nat.reduceLeDiff, Nat.reduceBEq, Nat.reduceBNe, reduceIte, reduceCtorEq, Int.reduceToNat, String.reduceEq]
      repeat refine And.intro (by first | omega | exact ⟨by omega, by omega⟩ | exact ⟨by omega, by omega, by omega⟩ | exact ⟨⟨by omega, by omega⟩, by omega, by omega⟩ | exact okDyn_num (fun x => x.i) (by kernel_rfl) | kernel_rfl | exact okDyn_num (fun _ => 0) (by kernel_rfl)) ?_
      obtain ⟨a, ha⟩ : ∃ a, a = 10000 * (i + 1) + 352 := ⟨_, rfl⟩
      rw [← ha]
      refine loopK.intro _ _ (I := fun z : NumY => ⟨[none, none, some (.int .i64 f), some (.ptr ⟨L + 1, 0⟩ 0 0), none, none, some (.ptr ⟨L + 1, 32⟩ 0 0), none, none, some (.sl ⟨L + 1, z.q⟩ 0 (acc.length + z.j)), none, none, some (.ptr ⟨L + 1, a⟩ 0 0), none, none, none, none, some (.fs 4 (l.map Msg.row)), some (.int .i64 l.length), some (.int .i64 k), none, none, none, none, none, none, none, none, none, none, none, none, none, none, none, none, none, none, some (.fs 8 (ds.map Dat.row)), some (.int .i64 ds.length), some (.int .i64 z.j), none, none, none, none, none, none, none, none, none, none, none, none, none, none, none, none, none, none],
        [(⟨L + 1, 0⟩, .rows 34 6 true true [[.fs 1 (out1.map eI), .fs 1 (inn.map eI), .fs 8 [], .int .i64 num, .int .i64 (-1), .fs 1 []]]), (⟨L + 1, 32⟩, .rows 34 6 true true [[.nilS, .nilS, .nilS, .int .i64 0, .int .i64 0, .nilS]]), (⟨L + 1, a⟩, .rows 34 6 true true [[.fs 1 (out2.map eI), .fs 1 (inn.map eI), .fs 8 [], .int .i64 num, .int .i64 (-1), .fs 1 []]]), (⟨L + 1, z.q⟩, .rows 43 8 true true ((acc ++ stampL f acc.length ds z.j).map Dat.row))], 10000 * (z.i + 1)⟩)
        (pre := fun z => z.j ≤ ds.length ∧ 192 ≤ z.q ∧ z.q < 10000 * (z.i + 1) ∧ a < 10000 * (z.i + 1) ∧ z.q ≠ a) (μ := fun z => ds.length - z.j) ⟨0, i + 1, q⟩ ⟨by simp, by simp only []; omega, by simp only []; omega, by simp only []; omega, by simp only []; omega⟩ ?_ ?_
      · have n1 : (a = 0) = False := by apply eq_false; omega
        have n2 : (a = 32) = False := by apply eq_false; omega
        have n3 : (a = q) = False := by apply eq_false; omega
        refine Sub.of (fun n hn => hF2 n (by have : n.l = L + 1 := hn; omega)) (by simp only [go_sem, resVal, resVals, resVal1, one, Wk, WkL, WkLL, wkN, wkNL, wkNLL, UpdIn, UpdAll, BW, plainP, plainPL, subT, subH, subK, and_self, true_or, or_true, List.not_mem_nil, List.mem_cons, forall_eq, imp_self, implies_true, Nat.reduceSub, Nat.reduceAdd, Nat.reduceMul, Nat.reduceEqDiff, Nat.reduceLT, Nat.reduceLeDiff, Nat.reduceBEq, Nat.reduceBNe, reduceIte, reduceCtorEq, Int.reduceToNat, String.reduceEq, Int.natCast_zero, Nat.add_zero, Msg.row]) ?_ (by simp [subK, keys]) (by simp only []; omega)
        have n4 : (a = 10000 * (i + 1) + 96) = False := by apply eq_false; omega
        simp [subH, Tx.look, stampL, n1, n2, n3, n4, q_0, n0_q, q_32, n32_q, q_n1, q_n2, q_n3, q_n4, q_n5]
      · have hi1 : 10000 ≤ a := by omega
        clear q_n1 q_n2 q_n3 q_n4 q_n5 q_0 q_32 n0_q n32_q
        clear ha k1 k2
        clear i q
        rintro ⟨j, i, q⟩ ⟨g1, g2, g3, g4, g5⟩
        simp only at g1 g2 g3 g4 g5 ⊢
        have q_0 : (q = 0) = False := by apply eq_false; omega
        have n0_q : (0 = q) = False := by apply eq_false; omega
        have q_32 : (q = 32) = False := by apply eq_false; omega
        have n32_q : (32 = q) = False := by apply eq_false; omega
        have q_a : (q = a) = False := by apply eq_false; omega
        have na_q : (a = q) = False := by apply eq_false; omega
        have q_n1 : ∀ kk, (10000 * (i + 1) + kk = q) = False := fun kk => by apply eq_false; omega
        have q_n2 : ∀ kk, (q = 10000 * (i + 1) + kk) = False := fun kk => by apply eq_false; omega
        have q_n3 : (10000 * (i + 1) = q) = False := by apply eq_false; omega
        have q_n4 : (q = 10000 * (i + 1)) = False := by apply eq_false; omega
        have q_n5 : ∀ kk, ((⟨L + 1, q⟩ : Nm) == ⟨L + 1, 10000 * (i + 1) + kk⟩) = false := fun kk => by simp; omega
        have a_0 : (a = 0) = False := by apply eq_false; omega
        have n0_a : (0 = a) = False := by apply eq_false; omega
        have a_32 : (a = 32) = False := by apply eq_false; omega
        have n32_a : (32 = a) = False := by apply eq_false; omega
        have a_n1 : ∀ kk, (10000 * (i + 1) + kk = a) = False := fun kk => by apply eq_false; omega
        have a_n2 : ∀ kk, (a = 10000 * (i + 1) + kk) = False := fun kk => by apply eq_false; omega
        have a_n3 : (10000 * (i + 1) = a) = False := by apply eq_false; omega
        have a_n4 : (a = 10000 * (i + 1)) = False := by apply eq_false; omega
        have a_n5 : ∀ kk, ((⟨L + 1, a⟩ : Nm) == ⟨L + 1, 10000 * (i + 1) + kk⟩) = false := fun kk => by simp; omega
        have hel : (acc ++ stampL f acc.length ds j).length = acc.length + j := by rw [List.length_append, stampL_len]
        by_cases hjt : j < ds.length
        · have f1 : decide ((j : Int) < (ds.length : Int)) = true := dT (by omega)
          have r0 : (ds.map Dat.row).getD j [] = (ds.getD j datZ).row := by simp [hjt, List.getD_eq_getElem?_getD]
          have e11 : Go.Sx.ibits .and .i64 (f + ((acc.length + j : Nat) : Int)) 4294967295 = (f + ((acc.length + j : Nat) : Int)) % 4294967296 := and_mask (f + ((acc.length + j : Nat) : Int)) 32 (by omega)
          have e12 : stampL f acc.length ds (j + 1) = stampL f acc.length ds j ++ [stamp f acc.length ds j] := by simp [stampL, List.range_succ]
          have e13 : acc ++ stampL f acc.length ds (j + 1) = (acc ++ stampL f acc.length ds j) ++ [stamp f acc.length ds j] := by rw [e12, List.append_assoc]
          obtain ⟨R, hR⟩ : ∃ R, R = acc ++ stampL f acc.length ds j := ⟨_, rfl⟩
          rw [← hR] at hel e13 ⊢
          obtain ⟨d, hd⟩ : ∃ d, d = ds.getD j datZ := ⟨_, rfl⟩
          rw [← hd] at r0
          have e14 : (stamp f acc.length ds j).row = [.int .i64 ((f + ((acc.length + j : Nat) : Int)) % 4294967296), .int .i64 d.st, .int .i64 d.sq, .int .i64 d.pr, .bool d.fi, .bool d.la, .bool d.lo, .str d.pl] := by rw [stamp, ← hd]; rfl
          simp only [f1, r0, e11, Dat.row, nm_beq, Nat.reduceBEq, nB, nB', nS2, nS2', Nat.add_assoc, Nat.reduceAdd, q_0, n0_q, q_32, n32_q, q_a, na_q, q_n1, q_n2, q_n3, q_n4, q_n5, a_0, n0_a, a_32, n32_a, a_n1, a_n2, a_n3, a_n4, a_n5, List.length_map, Nat.add_zero, go_sem, Meths.get, meths, Nat.reduceSub, Nat.reduceAdd, Nat.reduceMul, Nat.reduceEqDiff, Nat.reduceLT, Nat.reduceLeDiff, Nat.reduceBEq, Nat.reduceBNe, reduceIte, reduceCtorEq, Int.reduceToNat, String.reduceEq]
          repeat refine And.intro (by first | omega | exact ⟨by omega, by omega⟩ | exact ⟨by omega, by omega, by omega⟩ | exact ⟨⟨by omega, by omega⟩, by omega, by omega⟩ | exact okS (by kernel_rfl)) ?_
          refine ⟨⟨j + 1, i + 1, 10000 * (i + 1) + 480⟩, ⟨by simp only []; omega, by simp only []; omega, by simp only []; omega, by simp only []; omega, by simp only []; omega⟩, by simp only []; omega, ?_⟩
          refine Sub.of (fun n hn => hF2 n (by have : n.l = L + 1 := hn; omega)) (by simp only [go_sem, resVal, resVals, resVal1, one, Wk, WkL, WkLL, wkN, wkNL, wkNLL, UpdIn, UpdAll, BW, plainP, plainPL, subT, subH, subK, and_self, true_or, or_true, List.not_mem_nil, List.mem_cons, forall_eq, imp_self, implies_true, Nat.reduceSub, Nat.reduceAdd, Nat.reduceMul, Nat.reduceEqDiff, Nat.reduceLT, Nat.reduceLeDiff, Nat.reduceBEq, Nat.reduceBNe, reduceIte, reduceCtorEq, Int.reduceToNat, String.reduceEq, Int.natCast_succ, Nat.add_assoc]) ?_ (by simp [subK, keys]) (by simp only []; omega)
          simp [subH, Tx.look, e13, e14, nm_beq, Nat.reduceBEq, nB, nB', nS2, nS2', Nat.add_assoc, Nat.reduceAdd, q_0, n0_q, q_32, n32_q, q_a, na_q, q_n1, q_n2, q_n3, q_n4, q_n5, a_0, n0_a, a_32, n32_a, a_n1, a_n2, a_n3, a_n4, a_n5]
        · have f1 : decide ((j : Int) < (ds.length : Int)) = false := dF (by omega)
          have e : j = ds.length := by omega
          subst e
          simp only [f1, Dat.row, nm_beq, Nat.reduceBEq, nB, nB', nS2, nS2', Nat.add_assoc, Nat.reduceAdd, q_0, n0_q, q_32, n32_q, q_a, na_q, q_n1, q_n2, q_n3, q_n4, q_n5, a_0, n0_a, a_32, n32_a, a_n1, a_n2, a_n3, a_n4, a_n5, List.length_map, Nat.add_zero, go_sem, Meths.get, meths, Nat.reduceSub, Nat.reduceAdd, Nat.reduceMul, Nat.reduceEqDiff, Nat.reduceLT, Nat.reduceLeDiff, Nat.reduceBEq, Nat.reduceBNe, reduceIte, reduceCtorEq, Int.reduceToNat, String.reduceEq]
          repeat refine And.intro (by first | omega | exact ⟨by omega, by omega⟩ | exact ⟨by omega, by omega, by omega⟩ | exact ⟨⟨by omega, by omega⟩, by omega, by omega⟩ | exact okS (by kernel_rfl)) ?_
          refine ⟨⟨k + 1, i + 1, q, out2, acc ++ stampL f acc.length ds ds.length⟩, ⟨by simp only []; omega, by simp only []; omega, ho2s, by simp [stampL_len]; omega, h5, by simp only []; omega, by simp only []; omega⟩, by simp only []; omega, ?_⟩
          refine Sub.of (fun n hn => hF2 n (by have : n.l = L + 1 := hn; omega)) (by simp only [hel, go_sem, resVal, resVals, resVal1, one, Wk, WkL, WkLL, wkN, wkNL, wkNLL, UpdIn, UpdAll, BW, plainP, plainPL, subT, subH, subK, and_self, true_or, or_true, List.not_mem_nil, List.mem_cons, forall_eq, imp_self, implies_true, Nat.reduceSub, Nat.reduceAdd, Nat.reduceMul, Nat.reduceEqDiff, Nat.reduceLT, Nat.reduceLeDiff, Nat.reduceBEq, Nat.reduceBNe, reduceIte, reduceCtorEq, Int.reduceToNat, String.reduceEq, Int.natCast_succ]) ?_ (by simp [subK, keys]) (by simp only []; omega)
          simp [subH, Tx.look, nm_beq, Nat.reduceBEq, nB, nB', nS2, nS2', Nat.add_assoc, Nat.reduceAdd, q_0, n0_q, q_32, n32_q, q_a, na_q, q_n1, q_n2, q_n3, q_n4, q_n5, a_0, n0_a, a_32, n32_a, a_n1, a_n2, a_n3, a_n4, a_n5]
    · have f1 : decide ((k : Int) < (l.length : Int)) = false := dF (by omega)
      have e : k = l.length := by omega
      subst e
      rw [List.drop_of_length_le (Nat.le_refl _), numG] at h5
      rw [← h5]
      simp only [f1, nm_beq, Nat.reduceBEq, nB, nB', nS2, nS2', Nat.add_assoc, Nat.reduceAdd, q_0, n0_q, q_32, n32_q, q_n1, q_n2, q_n3, q_n4, q_n5, List.length_map, Nat.add_zero, go_sem, Meths.get, meths, Nat.reduceSub, Nat.reduceAdd, Nat.reduceMul, Nat.reduceEqDiff, Nat.reduceLT, Nat.reduceLeDiff, Nat.reduceBEq, Nat.reduceBNe, reduceIte, reduceCtorEq, Int.reduceToNat, String.reduceEq]
      exact PostF.of (p := True) (v0 := .tup [.agg [.fs 1 (out1.map eI), .fs 1 (inn.map eI), .fs 8 [], .int .i64 num, .int .i64 (-1), .fs 1 []], .sl ⟨L + 1, q⟩ 0 acc.length, .bool true] ) (.inr rfl) (by simp only [resVal, resVals, resVal1, one, Nat.add_zero, go_sem, Meths.get, meths, Nat.reduceSub, Nat.reduceAdd, Nat.reduceMul, Nat.reduceEqDiff, Nat.reduceLT, Nat.reduceLeDiff, Nat.reduceBEq, Nat.reduceBNe, reduceIte, reduceCtorEq, Int.reduceToNat, String.reduceEq]) trivial (by simp [Wk, WkL, Tx.look, List.take_of_length_le, nB, nB', q_0, q_32, n0_q, n32_q]) (by simp [wkN, wkNL]) (by simp [Tx.nf, nfl]) trivial (by simp [UpdAll, keys])
def eqM (m m' : Msg) : Bool := m.st == m'.st && (m.pr == m'.pr && (m.lo == m'.lo && m.tx == m'.tx))
theorem eqM_iff (m m' : Msg) : eqM m m' = decide (m = m') := by
  obtain ⟨a, b, c, d⟩ := m
  obtain ⟨a', b', c', d'⟩ := m'
  rw [Bool.eq_iff_iff]
  simp [eqM]
theorem same_ok {F : SF} {L nx : Nat} (a b : List Msg) (ha : a.length ≤ 1000000) (hb : b.length ≤ 1000000) :
    Con Try.prog 28 [.fs 4 (a.map Msg.row), .fs 4 (b.map Msg.row)] F L nx nx (.bool (decide (a = b))) [] [] := by
  refine Con.body (cxOk (L + 1)) rfl rfl (fn := Try.f28) (c := Try.f28.body.getD .skip) (by kernel_rfl) (by rfl) (by kernel_rfl) rfl (by simp) ?_
  intro F3 hF1 hF2
  by_cases hl : a.length = b.length
  · have f0 : ((a.length : Int) != (b.length : Int)) = false := by rw [hl]; simp
    simp only [Try.f28, cx, f0, List.length_map, nm_beq, Nat.reduceBEq, nB, nB', nS2, nS2', Nat.add_assoc, Nat.reduceAdd, Nat.add_zero, go_sem, Meths.get, meths, Nat.reduceSub, Nat.reduceAdd, Nat.reduceMul, Nat.reduceEqDiff, Nat.reduceLT, Nat.reduceLeDiff, Nat.reduceBEq, Nat.reduceBNe, reduceIte, reduceCtorEq, Int.reduceToNat, String.reduceEq]
    refine loopK.intro _ _ (I := fun i : Nat => ⟨[some (.fs 4 (a.map Msg.row)), some (.fs 4 (b.map Msg.row)), none, none, none, some (.int .i64 i), none, none, none, none, none, none, none, none, none, none, none, none, none, none, none, none, none, none, none, none], [], 10000 * (i + 1)⟩) (pre := fun i => i ≤ a.length ∧ ∀ j, j < i → a[j]? = b[j]?) (μ := fun i => a.length - i) 0 ⟨by omega, by intro j h; omega⟩ ?_ ?_
    · exact Sub.of (fun n hn => hF2 n (by have : n.l = L + 1 := hn; omega)) (by simp only [go_sem, resVal, resVals, resVal1, one, Wk, WkL, WkLL, wkN, wkNL, wkNLL, UpdIn, UpdAll, BW, plainP, plainPL, subT, subH, subK, and_self, true_or, or_true, List.not_mem_nil, List.mem_cons, forall_eq, imp_self, implies_true, Nat.reduceSub, Nat.reduceAdd, Nat.reduceMul, Nat.reduceEqDiff, Nat.reduceLT, Nat.reduceLeDiff, Nat.reduceBEq, Nat.reduceBNe, reduceIte, reduceCtorEq, Int.reduceToNat, String.reduceEq, Int.natCast_zero]) trivial trivial (by simp)
    · rintro i ⟨hi, hp⟩
      by_cases hlt : i < a.length
      · have f1 : decide ((i : Int) < (a.length : Int)) = true := dT (by omega)
        have r0 : (a.map Msg.row).getD i [] = a[i].row := by simp [hlt, List.getD_eq_getElem?_getD]
        have r1 : (b.map Msg.row).getD i [] = (b[i]'(by omega)).row := by simp [show i < b.length by omega, List.getD_eq_getElem?_getD]
        have hq := eqM_iff a[i] (b[i]'(by omega))
        unfold eqM at hq
        simp only [f1, r0, r1, Msg.row, List.length_map, nm_beq, Nat.reduceBEq, nB, nB', nS2, nS2', Nat.add_assoc, Nat.reduceAdd, Nat.add_zero, go_sem, Meths.get, meths, Nat.reduceSub, Nat.reduceAdd, Nat.reduceMul, Nat.reduceEqDiff, Nat.reduceLT, Nat.reduceLeDiff, Nat.reduceBEq, Nat.reduceBNe, reduceIte, reduceCtorEq, Int.reduceToNat, String.reduceEq]
        repeat refine And.intro (by first | omega | exact ⟨by omega, by omega⟩ | exact ⟨by omega, by omega, by omega⟩ | exact ⟨⟨by omega, by omega⟩, by omega, by omega⟩ | exact okDyn_num (fun x => x.i) (by kernel_rfl) | kernel_rfl | exact okDyn_num (fun _ => 0) (by kernel_rfl)) ?_
        rw [hq]
        cases hde : decide (a[i] = b[i]'(by omega)) with
        | false =>
          have hne : a ≠ b := by rintro rfl; simp at hde
          simp only [Bool.not_false, Nat.add_zero, go_sem, Meths.get, meths, Nat.reduceSub, Nat.reduceAdd, Nat.reduceMul, Nat.reduceEqDiff, Nat.reduceLT, Nat.reduceLeDiff, Nat.reduceBEq, Nat.reduceBNe, reduceIte, reduceCtorEq, Int.reduceToNat, String.reduceEq]
          exact .bool (.inr rfl) rfl (by simp [hne]) (by simp [UpdAll, keys])
        | true =>
          have he := of_decide_eq_true hde
          simp only [Bool.not_true, Nat.add_zero, go_sem, Meths.get, meths, Nat.reduceSub, Nat.reduceAdd, Nat.reduceMul, Nat.reduceEqDiff, Nat.reduceLT, Nat.reduceLeDiff, Nat.reduceBEq, Nat.reduceBNe, reduceIte, reduceCtorEq, Int.reduceToNat, String.reduceEq]
          refine ⟨⟨by omega, by omega⟩, i + 1, ⟨by omega, fun j hj => ?_⟩, by omega, ?_⟩
          · by_cases hji : j = i
            · subst hji; rw [List.getElem?_eq_getElem hlt, List.getElem?_eq_getElem (by omega), he]
            · exact hp j (by omega)
          · exact Sub.of (fun n hn => hF2 n (by have : n.l = L + 1 := hn; omega)) (by simp only [go_sem, resVal, resVals, resVal1, one, Wk, WkL, WkLL, wkN, wkNL, wkNLL, UpdIn, UpdAll, BW, plainP, plainPL, subT, subH, subK, and_self, true_or, or_true, List.not_mem_nil, List.mem_cons, forall_eq, imp_self, implies_true, Nat.reduceSub, Nat.reduceAdd, Nat.reduceMul, Nat.reduceEqDiff, Nat.reduceLT, Nat.reduceLeDiff, Nat.reduceBEq, Nat.reduceBNe, reduceIte, reduceCtorEq, Int.reduceToNat, String.reduceEq, Int.natCast_succ]) trivial trivial (by simp only []; omega)
      · have f1 : decide ((i : Int) < (a.length : Int)) = false := dF (by omega)
        have e : a = b := by
          apply List.ext_getElem?
          intro j
          by_cases hj : j < a.length
          · exact hp j (by omega)
          · rw [List.getElem?_eq_none (by omega), List.getElem?_eq_none (by omega)]
        simp only [f1, List.length_map, nm_beq, Nat.reduceBEq, nB, nB', nS2, nS2', Nat.add_assoc, Nat.reduceAdd, Nat.add_zero, go_sem, Meths.get, meths, Nat.reduceSub, Nat.reduceAdd, Nat.reduceMul, Nat.reduceEqDiff, Nat.reduceLT, Nat.reduceLeDiff, Nat.reduceBEq, Nat.reduceBNe, reduceIte, reduceCtorEq, Int.reduceToNat, String.reduceEq]
        exact .bool (.inr rfl) rfl (by simp [e]) (by simp [UpdAll, keys])
  · have f0 : ((a.length : Int) != (b.length : Int)) = true := by simp; omega
    have e : a ≠ b := by rintro rfl; exact hl rfl
    simp only [Try.f28, cx, f0, List.length_map, nm_beq, Nat.reduceBEq, nB, nB', nS2, nS2', Nat.add_assoc, Nat.reduceAdd, Nat.add_zero, go_sem, Meths.get, meths, Nat.reduceSub, Nat.reduceAdd, Nat.reduceMul, Nat.reduceEqDiff, Nat.reduceLT, Nat.reduceLeDiff, Nat.reduceBEq, Nat.reduceBNe, reduceIte, reduceCtorEq, Int.reduceToNat, String.reduceEq]
    exact .bool (.inr rfl) rfl (by simp [e]) (by simp [UpdAll, keys])
end Go.Proofs.Ytfhhbkehlfipgaa
end
