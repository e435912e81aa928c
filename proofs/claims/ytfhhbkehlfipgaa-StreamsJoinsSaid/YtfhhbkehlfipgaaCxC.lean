/- Lemmas for the walk: C9. -/
import Derived.Test.YtfhhbkehlfipgaaCxB
import Derived.Test.YtfhhbkehlfipgaaCxA
section
set_option linter.unusedSimpArgs false
set_option linter.unusedVariables false
set_option linter.unnecessarySimpa false
set_option linter.unusedSectionVars false
namespace Go.Proofs.Ytfhhbkehlfipgaa
open Go.Tx
set_option maxRecDepth 100000
set_option maxHeartbeats 1000000
set_option linter.unusedSimpArgs false
set_option linter.unusedVariables false
/-! streams.Send, where no piece waits -/
def dRow (st pr sq : Int) (lo fi la : Bool) (pay : List UInt8) : List PV := [.int .i64 0, .int .i64 st, .int .i64 sq, .int .i64 pr, .bool fi, .bool la, .bool lo, .str pay]
def rowsS (st pr sq : Int) (lo : Bool) (s : List UInt8) (n : Nat) : List (List PV) := (List.range n).map fun i => dRow st pr sq lo (i == 0) false (pieceS s i)
def blkS (L i : Nat) : Nm := ⟨L, 1000 * (i + 1) + 544⟩
/-- What a round of Send's loop changes. -/
def uS (L : Nat) (nd no : Nm) (st pr sq : Int) (lo : Bool) (s : List UInt8) (i : Nat) : List (Nm × SBlk) :=
  (if i = 0 then [] else [(blkS L (i - 1), .dead)]) ++ [(nd, .rows 43 8 true true [dRow st pr sq lo (i == 0) false (pieceS s i)]), (no, .rows 32 1 true false [[.sl (blkS L i) 0 (i + 1)]]), (blkS L i, .rows 43 8 true true (rowsS st pr sq lo s (i + 1)))]
noncomputable def cxr (L l : Nat) : Cx := ⟨Try.prog, tys, meths, false, L, some l, []⟩
theorem cxOk' (L l : Nat) : (cxr L l).Ok := ⟨tysOk, fieldsOk, mixedOk, methsOk⟩
theorem updAll_set {L : Nat} {ks : List Nm} {n : Nm} {b : SBlk} (hn : n.l = L + 1 ∨ n ∈ ks) : ∀ {H : List (Nm × SBlk)}, UpdAll L ks H → UpdAll L ks (setH H n b)
  | [], _ => ⟨hn, trivial⟩
  | (m, c) :: l, h => by
    simp only [setH]
    split
    · exact ⟨by first | exact hn | exact h.1, h.2⟩
    · exact ⟨h.1, updAll_set hn h.2⟩
theorem updAll_upd {L : Nat} {ks : List Nm} : ∀ (l H : List (Nm × SBlk)), (∀ x ∈ l, x.1.l = L + 1 ∨ x.1 ∈ ks) → UpdAll L ks H → UpdAll L ks (updH H l)
  | [], H, _, h => h
  | (n, b) :: l, H, hl, h => by
    simp only [updH]
    exact updAll_upd l _ (fun x hx => hl x (by simp [hx])) (updAll_set (hl (n, b) (by simp)) h)
theorem updAll_HF {L : Nat} {ks : List Nm} {u : Nat → List (Nm × SBlk)} (h : ∀ i, ∀ x ∈ u i, x.1.l = L + 1 ∨ x.1 ∈ ks) : ∀ i, UpdAll L ks (HF u i)
  | 0 => trivial
  | i + 1 => updAll_upd _ _ (h i) (updAll_HF h i)
theorem upd_app : ∀ (F : SF) (l l' : List (Nm × SBlk)), F.upd (l ++ l') = (F.upd l).upd l'
  | F, [], l' => rfl
  | F, (n, b) :: l, l' => by simp only [List.cons_append, SF.upd]; exact upd_app _ l l'
theorem uS_at {F : SF} {L : Nat} {nd no : Nm} {st pr sq : Int} {lo : Bool} {s : List UInt8} (h1 : nd.l < L) (h2 : no.l < L) (h3 : nd ≠ no) (i : Nat) :
    Tx.look F (HF (uS L nd no st pr sq lo s) (i + 1)) nd = some (.rows 43 8 true true [dRow st pr sq lo (i == 0) false (pieceS s i)]) ∧
    Tx.look F (HF (uS L nd no st pr sq lo s) (i + 1)) no = some (.rows 32 1 true false [[.sl (blkS L i) 0 (i + 1)]]) ∧
    Tx.look F (HF (uS L nd no st pr sq lo s) (i + 1)) (blkS L i) = some (.rows 43 8 true true (rowsS st pr sq lo s (i + 1))) := by
  have e1 : nd ≠ blkS L i := by rintro rfl; simp [blkS] at h1
  have e2 : no ≠ blkS L i := by rintro rfl; simp [blkS] at h2
  rw [look_HF]
  simp only [uS, upd_app, SF.upd, SF.set]
  refine ⟨?_, ?_, ?_⟩
  · rw [if_neg e1, if_neg h3, if_pos trivial]
  · rw [if_neg e2, if_pos trivial]
  · rw [if_pos trivial]
def outS (out : List Int) (st : Nat) (lo : Bool) : List Int := if lo then out else out.set st ((out.getD st 0 + 1) % 65536)
def seqS (out : List Int) (st : Nat) (lo : Bool) : Int := if lo then 0 else out.getD st 0
def piecesS (st pr sq : Int) (lo : Bool) (s : List UInt8) (n : Nat) : List (List PV) := (List.range n).map fun i => dRow st pr sq lo (i == 0) (i + 1 == n) (pieceS s i)
theorem piecesS_eq (st pr sq : Int) (lo : Bool) (s : List UInt8) (M : Nat) : (rowsS st pr sq lo s (M + 1)).set M (List.take 5 ((rowsS st pr sq lo s (M + 1)).getD M []) ++ [.bool true] ++ List.drop 6 ((rowsS st pr sq lo s (M + 1)).getD M [])) = piecesS st pr sq lo s (M + 1) := by
  have hg : (rowsS st pr sq lo s (M + 1)).getD M [] = dRow st pr sq lo (M == 0) false (pieceS s M) := by simp [rowsS, List.getD_eq_getElem?_getD]
  rw [hg]
  apply List.ext_getElem?
  intro k
  rw [List.getElem?_set]
  by_cases hk : M = k
  · subst hk
    simp [rowsS, piecesS, dRow]
  · rw [if_neg hk]
    simp only [rowsS, piecesS, List.getElem?_map]
    by_cases hl : k < M + 1
    · rw [List.getElem?_range hl]
      simp only [Option.map_some, Option.some.injEq]
      have : (k + 1 == M + 1) = false := by simp; omega
      rw [this]
    · rw [List.getElem?_eq_none (by simp; omega)]; rfl
theorem send0_ok {F : SF} {L nx : Nat} (out inn : List Int) (num : Int) (ho : 1 ≤ out.length) (ho2 : out.length ≤ 16) (ho3 : out.all (serB 16) = true) (hi : 1 ≤ inn.length) (hi2 : inn.length ≤ 16) (hi3 : inn.all (serB 16) = true)
    (hn : [num].all (serB 32) = true) (st : Nat) (pr : Int) (lo : Bool) (s : List UInt8) (hst : st < out.length) (hpr : [pr].all (serB 32) = true) (hs1 : 1 ≤ s.length) (hs2 : s.length ≤ 8000) :
    Con Try.prog 12 [.agg [.fs 1 (out.map eI), .fs 1 (inn.map eI), .fs 8 [], .int .i64 num, .int .i64 (-1), .fs 1 []], .agg [.int .i64 st, .int .i64 pr, .bool lo, .str s]] F L nx (nx + 5) (.tup [.agg [.sl ⟨L, nx⟩ 0 out.length, .sl ⟨L, nx + 1⟩ 0 inn.length, .sl ⟨L, nx + 2⟩ 0 0, .int .i64 num, .int .i64 (-1), .sl ⟨L, nx + 3⟩ 0 0], .sl ⟨L, nx + 4⟩ 0 ((s.length + 999) / 1000), .int .i64 0])
      [(⟨L, nx⟩, .rows 3 1 true true ((outS out st lo).map eI)), (⟨L, nx + 1⟩, .rows 3 1 true true (inn.map eI)), (⟨L, nx + 2⟩, .rows 43 8 true true []), (⟨L, nx + 3⟩, .rows 3 1 true true []), (⟨L, nx + 4⟩, .rows 43 8 true true (piecesS st pr (seqS out st lo) lo s ((s.length + 999) / 1000)))] [] := by
  refine Con.bodyN (cxOk (L + 1)) rfl rfl (fn := Try.f12) (c := Try.f12.body.getD .skip) (by kernel_rfl) (by rfl) (by kernel_rfl) rfl (by simp) ?_
  intro F3 hF1 hF2
  simp only [Try.f12, cx, Nat.add_zero, go_sem, Meths.get, meths, Nat.reduceSub, Nat.reduceAdd, Nat.reduceMul, Nat.reduceEqDiff, Nat.reduceLT, Nat.reduceLeDiff, Nat.reduceBEq, Nat.reduceBNe, reduceIte, reduceCtorEq, Int.reduceToNat, String.reduceEq]
  refine CallVC.same (begin0_ok out inn [] num (-1) (.inl rfl) ho ho2 ho3 hi hi2 hi3 hn rfl (by simp)) ?_
  have f0 : ((0 : Int) != 0) = false := rfl
  have f1 : decide ((st : Int) < 0) = false := dF (by omega)
  have f2 : decide ((st : Int) ≥ (out.length : Int)) = false := dF (by omega)
  have f2' : decide ((out.length : Int) ≤ (st : Int)) = false := dF (by omega)
  have f3 : decide ((s.length : Int) < 1) = false := dF (by omega)
  have f4 : decide ((8000 : Int) < (s.length : Int)) = false := dF (by omega)
  simp only [f0, f1, f2, f2', f3, f4, List.length_map, Nat.add_zero, go_sem, Meths.get, meths, Nat.reduceSub, Nat.reduceAdd, Nat.reduceMul, Nat.reduceEqDiff, Nat.reduceLT, Nat.reduceLeDiff, Nat.reduceBEq, Nat.reduceBNe, reduceIte, reduceCtorEq, Int.reduceToNat, String.reduceEq]
  refine CallVC.pure (args2 := [_, .fs 1 ([pr].map eI)]) ⟨rfl, ?_, trivial⟩ (serial_ok 32 [pr] (by omega) (by omega) (by simp)) rfl ?_
  · simp [Wk, eI, nm_eq]
  simp only [hpr, wkNL, wkN, f0, f1, f2, f2', f3, f4, List.length_map, Nat.add_zero, go_sem, Meths.get, meths, Nat.reduceSub, Nat.reduceAdd, Nat.reduceMul, Nat.reduceEqDiff, Nat.reduceLT, Nat.reduceLeDiff, Nat.reduceBEq, Nat.reduceBNe, reduceIte, reduceCtorEq, Int.reduceToNat, String.reduceEq]
  refine CallVC.same (contains_ok [] st (by simp)) ?_
  simp only [List.any_nil, Nat.add_zero, go_sem, Meths.get, meths, Nat.reduceSub, Nat.reduceAdd, Nat.reduceMul, Nat.reduceEqDiff, Nat.reduceLT, Nat.reduceLeDiff, Nat.reduceBEq, Nat.reduceBNe, reduceIte, reduceCtorEq, Int.reduceToNat, String.reduceEq]
  cases lo with
  | true =>
    simp only [Nat.add_zero, go_sem, Meths.get, meths, Nat.reduceSub, Nat.reduceAdd, Nat.reduceMul, Nat.reduceEqDiff, Nat.reduceLT, Nat.reduceLeDiff, Nat.reduceBEq, Nat.reduceBNe, reduceIte, reduceCtorEq, Int.reduceToNat, String.reduceEq]
    refine CallVC.same (pieces_ok s) ?_
    simp only [Nat.add_zero, go_sem, Meths.get, meths, Nat.reduceSub, Nat.reduceAdd, Nat.reduceMul, Nat.reduceEqDiff, Nat.reduceLT, Nat.reduceLeDiff, Nat.reduceBEq, Nat.reduceBNe, reduceIte, reduceCtorEq, Int.reduceToNat, String.reduceEq]
    obtain ⟨M, hM⟩ : ∃ M, (s.length + 999) / 1000 = M + 1 := ⟨(s.length + 999) / 1000 - 1, by omega⟩
    refine rangeK.intro (v := .tup []) (top := 2055) (rd := [⟨L + 1, 1797⟩, ⟨L + 1, 1957⟩, ⟨L + 1, 2053⟩]) (upd := [(⟨L + 1, 1797⟩, .rows 43 8 true true [dRow st pr 0 true (M == 0) false (pieceS s M)]), (⟨L + 1, 1957⟩, .rows 32 1 true false [[.sl ⟨L + 1, 2054⟩ 0 (M + 1)]]), (⟨L + 1, 2054⟩, .rows 43 8 true true (rowsS st pr 0 true s (M + 1)))]) (f := 83) (fl := []) (cl := [.ptr ⟨L + 1, 2053⟩ 0 0]) (by simp only [evalT, List.getD_cons_zero, List.getD_cons_succ]) rfl ⟨Try.f83, by kernel_rfl, by rfl, by kernel_rfl⟩ [none, none, none, none, none, none, none, none, none, some (.ptr ⟨L + 1, 1797⟩ 0 0), some (.ptr ⟨L + 1, 1957⟩ 0 0), none, none, none, none, none, none, none, none, none, none, none, none, none, none, none, none, none, none, none, none, none, none, none, none, none, none, none, none, none, none, none, none, none, none, none, none, none, none, none, none, none, none, none, none, none, none, none, none, none, none, none, none, none, none, none, none, none, none, none, none, none, none, none, none, none, none, none, none, none, none, none, none, none, none, none, none, none, none, none, none, none, none, none, none, none, none, none, none, none, none, none, none, none, none, none, none, none, none, none, none, none, none, none, none, none, none, none] ?_ ?_ ?_
    · simp only [go_sem, resVal, resVals, resVal1, one, Wk, WkL, WkLL, wkN, wkNL, wkNLL, UpdIn, UpdAll, BW, plainP, plainPL, subT, subH, subK, and_self, true_or, or_true, List.not_mem_nil, List.mem_cons, forall_eq, imp_self, implies_true, Nat.reduceSub, Nat.reduceAdd, Nat.reduceMul, Nat.reduceEqDiff, Nat.reduceLT, Nat.reduceLeDiff, Nat.reduceBEq, Nat.reduceBNe, reduceIte, reduceCtorEq, Int.reduceToNat, String.reduceEq]
    · intro y h1 h2 h3 h4
      refine pieces1_ok (L := L + 1) (k := 1) (rd := [⟨L + 1, 1797⟩, ⟨L + 1, 1957⟩, ⟨L + 1, 2053⟩]) s (by omega) ⟨L + 1, 2053⟩ true true ?_ (by simp) (by simp) y (M + 1) hM.symm (uS (L + 2) ⟨L + 1, 1797⟩ ⟨L + 1, 1957⟩ st pr 0 true s) (fun i => if i = 0 then [⟨L + 1, 1797⟩, ⟨L + 1, 1957⟩] else [⟨L + 1, 1797⟩, ⟨L + 1, 1957⟩, blkS (L + 2) (i - 1)]) ?_ ?_ ?_
      · simp [Tx.look]
      · intro F4 hF4 i hi
        cases i with
        | zero =>
          refine YCon.body (cxOk' (L + 3) y.l) (by rfl) (by rfl) (k := 1) (by rfl) (by simp) (by rw [h1]; rfl) (by rw [h1, h4]; simp) ?_
          intro F5 hF5 hF6
          have q1 : F5 ⟨L + 1, 1797⟩ = some (.rows 43 8 true true [dRow st pr 0 true false false []]) := by
            rw [hF5 _ (by simp)]; show F4 _ = _; rw [hF4 _ (by simp)]; simp [Tx.look, dRow]
          have q2 : F5 ⟨L + 1, 1957⟩ = some (.rows 32 1 true true [[.nilS]]) := by
            rw [hF5 _ (by simp)]; show F4 _ = _; rw [hF4 _ (by simp)]; simp [Tx.look]
          have n1 : ∀ i, ((⟨L + 2 + 1, i⟩ : Nm) = ⟨L + 1, 1797⟩) = False := fun i => by simp
          have n2 : ∀ i, ((⟨L + 2 + 1, i⟩ : Nm) = ⟨L + 1, 1957⟩) = False := fun i => by simp
          have n3 : ∀ i, ((⟨L + 1, 1797⟩ : Nm) = ⟨L + 2 + 1, i⟩) = False := fun i => by simp
          have n4 : ∀ i, ((⟨L + 1, 1957⟩ : Nm) = ⟨L + 2 + 1, i⟩) = False := fun i => by simp
          rw [h1, h2, h3, h4]
          simp only [setPs, List.zip_cons_cons, List.zip_nil_right, q1, q2, n1, n2, n3, n4, cxr, dRow, Nat.add_zero, go_sem, Meths.get, meths, Nat.reduceSub, Nat.reduceAdd, Nat.reduceMul, Nat.reduceEqDiff, Nat.reduceLT, Nat.reduceLeDiff, Nat.reduceBEq, Nat.reduceBNe, reduceIte, reduceCtorEq, Int.reduceToNat, String.reduceEq]
          refine ⟨rfl, _, Sub.refl _ _ _, [384], rfl, by simp, ?_, ?_⟩
          · simp only [uS, if_true, List.nil_append]
            refine ⟨Nat.le_succ _, ?_, Nat.le_succ _, ?_, Nat.le_refl _, ?_, trivial⟩
            · rw [show kp (L + 1 + 1) 1544 [384] ⟨L + 1, 1797⟩ = ⟨L + 1, 1797⟩ by simp [kp]]
              exact .pure (by simp [Tx.look, dRow])
            · rw [show kp (L + 1 + 1) 1544 [384] ⟨L + 1, 1957⟩ = ⟨L + 1, 1957⟩ by simp [kp]]
              refine .ren (rs := [[.sl ⟨L + 3, 384⟩ 0 1]]) (by simp [Tx.look]) ?_ ?_
              · simp [rowsNm, nmA, nmAL, Dn]
              · simp [Tx.rn, Tx.rnL, sg, blkS]
            · rw [show blkS (L + 2) 0 = ⟨L + 1 + 1, 1544⟩ from rfl, kp_at0 (by simp)]
              exact .pure (by simp [Tx.look, rowsS, dRow, List.range_succ])
          · exact ⟨.inr (by simp [uS, keys]), .inl rfl, .inl rfl, .inr (by simp [uS, keys]), trivial⟩
        | succ i =>
          obtain ⟨p1, p2, p3⟩ := uS_at (F := F4) (L := L + 2) (nd := ⟨L + 1, 1797⟩) (no := ⟨L + 1, 1957⟩) (st := st) (pr := pr) (sq := 0) (lo := true) (s := s) (by simp) (by simp) (by simp) i
          refine YCon.body (cxOk' (L + 3) y.l) (by rfl) (by rfl) (k := 1) (by rfl) (by simp [blkS]) (by rw [h1]; rfl) (by rw [h1, h4]; simp) ?_
          intro F5 hF5 hF6
          have q1 := (hF5 ⟨L + 1, 1797⟩ (by simp)).trans p1
          have q2 := (hF5 ⟨L + 1, 1957⟩ (by simp)).trans p2
          have q3 := (hF5 (blkS (L + 2) i) (by simp)).trans p3
          have n1 : ∀ i, ((⟨L + 2 + 1, i⟩ : Nm) = ⟨L + 1, 1797⟩) = False := fun i => by simp
          have n2 : ∀ i, ((⟨L + 2 + 1, i⟩ : Nm) = ⟨L + 1, 1957⟩) = False := fun i => by simp
          have n3 : ∀ i, ((⟨L + 1, 1797⟩ : Nm) = ⟨L + 2 + 1, i⟩) = False := fun i => by simp
          have n4 : ∀ i, ((⟨L + 1, 1957⟩ : Nm) = ⟨L + 2 + 1, i⟩) = False := fun i => by simp
          have n5 : ∀ k, ((⟨L + 2 + 1, k⟩ : Nm) = blkS (L + 2) i) = False := fun k => by simp [blkS]
          have n6 : ∀ k, (blkS (L + 2) i = (⟨L + 2 + 1, k⟩ : Nm)) = False := fun k => by simp [blkS]
          have n7 : ∀ k, (blkS (L + 2) i = (⟨L + 1, k⟩ : Nm)) = False := fun k => by simp [blkS]
          have n8 : ∀ k, ((⟨L + 1, k⟩ : Nm) = blkS (L + 2) i) = False := fun k => by simp [blkS]
          have m1 : ∀ k, (blkS (L + 2) i == (⟨L + 2 + 1, k⟩ : Nm)) = false := fun k => by simp [blkS]
          have m2 : ∀ k, ((⟨L + 2 + 1, k⟩ : Nm) == blkS (L + 2) i) = false := fun k => by simp [blkS]
          have r1 : (rowsS st pr 0 true s (i + 1)).length = i + 1 := by simp [rowsS]
          rw [h1, h2, h3, h4]
          simp only [setPs, List.zip_cons_cons, List.zip_nil_right, q1, q2, q3, n1, n2, n3, n4, n5, n6, n7, n8, m1, m2, r1, cxr, dRow, Nat.add_zero, go_sem, Meths.get, meths, Nat.reduceSub, Nat.reduceAdd, Nat.reduceMul, Nat.reduceEqDiff, Nat.reduceLT, Nat.reduceLeDiff, Nat.reduceBEq, Nat.reduceBNe, reduceIte, reduceCtorEq, Int.reduceToNat, String.reduceEq]
          have z1 : (((i + 1 : Nat) : Int) == 0) = (i + 1 == 0) := by simp; omega
          refine ⟨⟨by omega, by omega⟩, rfl, _, Sub.refl _ _ _, [384], rfl, by simp, ?_, ?_⟩
          · simp only [uS, Nat.add_sub_cancel, Nat.add_eq_zero_iff, Nat.succ_ne_zero, and_false, if_false, List.cons_append, List.nil_append]
            refine ⟨Nat.le_refl _, BN_dead, Nat.le_succ _, ?_, Nat.le_succ _, ?_, Nat.le_refl _, ?_, trivial⟩
            · rw [show kp (L + 1 + 1) (1000 * (i + 1 + 1) + 544) [384] ⟨L + 1, 1797⟩ = ⟨L + 1, 1797⟩ by simp [kp]]
              exact .pure (by simp only [Tx.look, if_true, dRow, z1])
            · rw [show kp (L + 1 + 1) (1000 * (i + 1 + 1) + 544) [384] ⟨L + 1, 1957⟩ = ⟨L + 1, 1957⟩ by simp [kp]]
              refine .ren (rs := [[.sl ⟨L + 3, 384⟩ 0 (i + 1 + 1)]]) (by simp [Tx.look, n8]) ?_ ?_
              · simp [rowsNm, nmA, nmAL, Dn]
              · simp [Tx.rn, Tx.rnL, sg, blkS]
            · rw [show blkS (L + 2) (i + 1) = ⟨L + 1 + 1, 1000 * (i + 1 + 1) + 544⟩ from rfl, kp_at0 (by simp)]
              refine .pure ?_
              rw [show rowsS st pr 0 true s (i + 1 + 1) = rowsS st pr 0 true s (i + 1) ++ [dRow st pr 0 true (i + 1 == 0) false (pieceS s (i + 1))] by simp [rowsS, List.range_succ]]
              simp [Tx.look, n8, n5, n6, n7, dRow]; omega
          · exact ⟨.inr (by simp [uS, keys]), .inl rfl, .inr (by simp [uS, keys]), .inl rfl, .inr (by simp [uS, keys]), trivial⟩
      · intro i hi
        by_cases h0 : i = 0 <;> simp [uS, keys, h0, blkS]
      · intro F4 hF4 hF5
        obtain ⟨p1, p2, p3⟩ := uS_at (F := F4) (L := L + 2) (nd := ⟨L + 1, 1797⟩) (no := ⟨L + 1, 1957⟩) (st := st) (pr := pr) (sq := 0) (lo := true) (s := s) (by simp) (by simp) (by simp) M
        refine ⟨[1000 * (M + 1) + 544], rfl, by simp, ⟨Nat.le_refl _, ?_, Nat.le_refl _, ?_, Nat.le_refl _, ?_, trivial⟩, updAll_HF (fun i x hx => ?_) _⟩
        · rw [show kp (L + 1) 2054 [1000 * (M + 1) + 544] ⟨L + 1, 1797⟩ = ⟨L + 1, 1797⟩ by simp [kp]]
          exact .pure p1
        · rw [show kp (L + 1) 2054 [1000 * (M + 1) + 544] ⟨L + 1, 1957⟩ = ⟨L + 1, 1957⟩ by simp [kp]]
          refine .ren p2 ?_ ?_
          · simp [rowsNm, nmA, nmAL, Dn, blkS]
          · simp [Tx.rn, Tx.rnL, sg, blkS]
        · rw [kp_at0 (by simp)]
          exact .pure p3
        · by_cases h0 : i = 0
          · simp [uS, h0] at hx
            rcases hx with rfl | rfl | rfl <;> simp [keys, blkS]
          · simp [uS, h0] at hx
            rcases hx with rfl | rfl | rfl | rfl <;> simp [keys, blkS]
    · have r1 : (rowsS st pr 0 true s (M + 1)).length = M + 1 := by simp [rowsS]
      have r2 : (((M + 1 : Nat) : Int) - 1).toNat = M := by omega
      simp only [r1, r2, dRow, Nat.add_zero, go_sem, Meths.get, meths, Nat.reduceSub, Nat.reduceAdd, Nat.reduceMul, Nat.reduceEqDiff, Nat.reduceLT, Nat.reduceLeDiff, Nat.reduceBEq, Nat.reduceBNe, reduceIte, reduceCtorEq, Int.reduceToNat, String.reduceEq]
      refine ⟨⟨by omega, by omega⟩, ⟨by omega, by omega⟩, by omega, by kernel_rfl, okDyn_num (·.i) (by kernel_rfl), ?_⟩
      have eP := piecesS_eq st pr 0 true s M
      rw [eP, hM]
      refine .now (.val [193, 194, 195, 196, 2054] (.inr rfl) (by simp) (p := True) (v0 := .tup [.agg [.sl ⟨L + 1, 193⟩ 0 out.length, .sl ⟨L + 1, 194⟩ 0 inn.length, .sl ⟨L + 1, 195⟩ 0 0, .int .i64 num, .int .i64 (-1), .sl ⟨L + 1, 196⟩ 0 0], .sl ⟨L + 1, 2054⟩ 0 (M + 1), .int .i64 0]) ?_ trivial ?_ ?_ ⟨Nat.le_refl _, ?_, Nat.le_refl _, ?_, Nat.le_refl _, ?_, Nat.le_refl _, ?_, Nat.le_refl _, ?_, trivial⟩ ?_)
      · simp only [resVal, resVals, resVal1, one, Nat.add_zero, go_sem, Meths.get, meths, Nat.reduceSub, Nat.reduceAdd, Nat.reduceMul, Nat.reduceEqDiff, Nat.reduceLT, Nat.reduceLeDiff, Nat.reduceBEq, Nat.reduceBNe, reduceIte, reduceCtorEq, Int.reduceToNat, String.reduceEq]
      · simp [nmA, nmAL, Dn]
      · simp [Tx.rn, Tx.rnL, sg, List.idxOf, List.findIdx, List.findIdx.go]
      · rw [kp_at0 (by simp)]
        exact .pure (by simp [Tx.look, outS])
      · rw [kp_at (by simp)]
        exact .pure (by simp [Tx.look])
      · rw [kp_at (by simp)]
        exact .pure (by simp [Tx.look])
      · rw [kp_at (by simp)]
        exact .pure (by simp [Tx.look])
      · rw [kp_at (by simp)]
        exact .pure (by simp [Tx.look, seqS])
      · exact ⟨.inl rfl, .inl rfl, .inl rfl, .inl rfl, .inl rfl, .inl rfl, .inl rfl, .inl rfl, .inl rfl, .inl rfl, .inl rfl, .inl rfl, .inl rfl, trivial⟩
  | false =>
    have hz := List.all_eq_true.1 ho3 (out.getD st 0) (by rw [List.getD_eq_getElem?_getD, List.getElem?_eq_getElem hst]; simp)
    simp only [serB, Bool.and_eq_true, decide_eq_true_eq] at hz
    have e0 := getD_eI out hst
    simp only [e0, eI, Int.toNat_natCast, Nat.add_zero, go_sem, Meths.get, meths, Nat.reduceSub, Nat.reduceAdd, Nat.reduceMul, Nat.reduceEqDiff, Nat.reduceLT, Nat.reduceLeDiff, Nat.reduceBEq, Nat.reduceBNe, reduceIte, reduceCtorEq, Int.reduceToNat, String.reduceEq]
    refine ⟨by kernel_rfl, ⟨by omega, by omega⟩, by simpa using hst, okDyn_num (·.i) (by kernel_rfl), by kernel_rfl, ?_⟩
    have h65 : (2 : Int) ^ (Int.toNat 16) = 65536 := rfl
    refine CallVC.same (behind_ok (out.getD st 0) 16 hz.1 (by have := hz.2; omega) (by omega) (by omega)) ?_
    simp only [h65, e0, eI, Int.toNat_natCast, Nat.add_zero, go_sem, Meths.get, meths, Nat.reduceSub, Nat.reduceAdd, Nat.reduceMul, Nat.reduceEqDiff, Nat.reduceLT, Nat.reduceLeDiff, Nat.reduceBEq, Nat.reduceBNe, reduceIte, reduceCtorEq, Int.reduceToNat, String.reduceEq]
    refine ⟨⟨by omega, by omega⟩, by simpa using hst, okDyn_num (·.i) (by kernel_rfl), ?_⟩
    refine CallVC.same (pieces_ok s) ?_
    simp only [Nat.add_zero, go_sem, Meths.get, meths, Nat.reduceSub, Nat.reduceAdd, Nat.reduceMul, Nat.reduceEqDiff, Nat.reduceLT, Nat.reduceLeDiff, Nat.reduceBEq, Nat.reduceBNe, reduceIte, reduceCtorEq, Int.reduceToNat, String.reduceEq]
    obtain ⟨M, hM⟩ : ∃ M, (s.length + 999) / 1000 = M + 1 := ⟨(s.length + 999) / 1000 - 1, by omega⟩
    refine rangeK.intro (v := .tup []) (top := 2759) (rd := [⟨L + 1, 1797⟩, ⟨L + 1, 2661⟩, ⟨L + 1, 2757⟩]) (upd := [(⟨L + 1, 1797⟩, .rows 43 8 true true [dRow st pr (out.getD st 0) false (M == 0) false (pieceS s M)]), (⟨L + 1, 2661⟩, .rows 32 1 true false [[.sl ⟨L + 1, 2758⟩ 0 (M + 1)]]), (⟨L + 1, 2758⟩, .rows 43 8 true true (rowsS st pr (out.getD st 0) false s (M + 1)))]) (f := 83) (fl := []) (cl := [.ptr ⟨L + 1, 2757⟩ 0 0]) (by simp only [evalT, List.getD_cons_zero, List.getD_cons_succ]) rfl ⟨Try.f83, by kernel_rfl, by rfl, by kernel_rfl⟩ [none, none, none, none, none, none, none, none, none, some (.ptr ⟨L + 1, 1797⟩ 0 0), some (.ptr ⟨L + 1, 2661⟩ 0 0), none, none, none, none, none, none, none, none, none, none, none, none, none, none, none, none, none, none, none, none, none, none, none, none, none, none, none, none, none, none, none, none, none, none, none, none, none, none, none, none, none, none, none, none, none, none, none, none, none, none, none, none, none, none, none, none, none, none, none, none, none, none, none, none, none, none, none, none, none, none, none, none, none, none, none, none, none, none, none, none, none, none, none, none, none, none, none, none, none, none, none, none, none, none, none, none, none, none, none, none, none, none, none, none, none, none, none] ?_ ?_ ?_
    · simp only [go_sem, resVal, resVals, resVal1, one, Wk, WkL, WkLL, wkN, wkNL, wkNLL, UpdIn, UpdAll, BW, plainP, plainPL, subT, subH, subK, and_self, true_or, or_true, List.not_mem_nil, List.mem_cons, forall_eq, imp_self, implies_true, Nat.reduceSub, Nat.reduceAdd, Nat.reduceMul, Nat.reduceEqDiff, Nat.reduceLT, Nat.reduceLeDiff, Nat.reduceBEq, Nat.reduceBNe, reduceIte, reduceCtorEq, Int.reduceToNat, String.reduceEq]
    · intro y h1 h2 h3 h4
      refine pieces1_ok (L := L + 1) (k := 1) (rd := [⟨L + 1, 1797⟩, ⟨L + 1, 2661⟩, ⟨L + 1, 2757⟩]) s (by omega) ⟨L + 1, 2757⟩ true true ?_ (by simp) (by simp) y (M + 1) hM.symm (uS (L + 2) ⟨L + 1, 1797⟩ ⟨L + 1, 2661⟩ st pr (out.getD st 0) false s) (fun i => if i = 0 then [⟨L + 1, 1797⟩, ⟨L + 1, 2661⟩] else [⟨L + 1, 1797⟩, ⟨L + 1, 2661⟩, blkS (L + 2) (i - 1)]) ?_ ?_ ?_
      · simp [Tx.look]
      · intro F4 hF4 i hi
        cases i with
        | zero =>
          refine YCon.body (cxOk' (L + 3) y.l) (by rfl) (by rfl) (k := 1) (by rfl) (by simp) (by rw [h1]; rfl) (by rw [h1, h4]; simp) ?_
          intro F5 hF5 hF6
          have q1 : F5 ⟨L + 1, 1797⟩ = some (.rows 43 8 true true [dRow st pr (out.getD st 0) false false false []]) := by
            rw [hF5 _ (by simp)]; show F4 _ = _; rw [hF4 _ (by simp)]; simp [Tx.look, dRow]
          have q2 : F5 ⟨L + 1, 2661⟩ = some (.rows 32 1 true true [[.nilS]]) := by
            rw [hF5 _ (by simp)]; show F4 _ = _; rw [hF4 _ (by simp)]; simp [Tx.look]
          have n1 : ∀ i, ((⟨L + 2 + 1, i⟩ : Nm) = ⟨L + 1, 1797⟩) = False := fun i => by simp
          have n2 : ∀ i, ((⟨L + 2 + 1, i⟩ : Nm) = ⟨L + 1, 2661⟩) = False := fun i => by simp
          have n3 : ∀ i, ((⟨L + 1, 1797⟩ : Nm) = ⟨L + 2 + 1, i⟩) = False := fun i => by simp
          have n4 : ∀ i, ((⟨L + 1, 2661⟩ : Nm) = ⟨L + 2 + 1, i⟩) = False := fun i => by simp
          rw [h1, h2, h3, h4]
          simp only [setPs, List.zip_cons_cons, List.zip_nil_right, q1, q2, n1, n2, n3, n4, cxr, dRow, Nat.add_zero, go_sem, Meths.get, meths, Nat.reduceSub, Nat.reduceAdd, Nat.reduceMul, Nat.reduceEqDiff, Nat.reduceLT, Nat.reduceLeDiff, Nat.reduceBEq, Nat.reduceBNe, reduceIte, reduceCtorEq, Int.reduceToNat, String.reduceEq]
          refine ⟨rfl, _, Sub.refl _ _ _, [384], rfl, by simp, ?_, ?_⟩
          · simp only [uS, if_true, List.nil_append]
            refine ⟨Nat.le_succ _, ?_, Nat.le_succ _, ?_, Nat.le_refl _, ?_, trivial⟩
            · rw [show kp (L + 1 + 1) 1544 [384] ⟨L + 1, 1797⟩ = ⟨L + 1, 1797⟩ by simp [kp]]
              exact .pure (by simp [Tx.look, dRow])
            · rw [show kp (L + 1 + 1) 1544 [384] ⟨L + 1, 2661⟩ = ⟨L + 1, 2661⟩ by simp [kp]]
              refine .ren (rs := [[.sl ⟨L + 3, 384⟩ 0 1]]) (by simp [Tx.look]) ?_ ?_
              · simp [rowsNm, nmA, nmAL, Dn]
              · simp [Tx.rn, Tx.rnL, sg, blkS]
            · rw [show blkS (L + 2) 0 = ⟨L + 1 + 1, 1544⟩ from rfl, kp_at0 (by simp)]
              exact .pure (by simp [Tx.look, rowsS, dRow, List.range_succ])
          · exact ⟨.inr (by simp [uS, keys]), .inl rfl, .inl rfl, .inr (by simp [uS, keys]), trivial⟩
        | succ i =>
          obtain ⟨p1, p2, p3⟩ := uS_at (F := F4) (L := L + 2) (nd := ⟨L + 1, 1797⟩) (no := ⟨L + 1, 2661⟩) (st := st) (pr := pr) (sq := out.getD st 0) (lo := false) (s := s) (by simp) (by simp) (by simp) i
          refine YCon.body (cxOk' (L + 3) y.l) (by rfl) (by rfl) (k := 1) (by rfl) (by simp [blkS]) (by rw [h1]; rfl) (by rw [h1, h4]; simp) ?_
          intro F5 hF5 hF6
          have q1 := (hF5 ⟨L + 1, 1797⟩ (by simp)).trans p1
          have q2 := (hF5 ⟨L + 1, 2661⟩ (by simp)).trans p2
          have q3 := (hF5 (blkS (L + 2) i) (by simp)).trans p3
          have n1 : ∀ i, ((⟨L + 2 + 1, i⟩ : Nm) = ⟨L + 1, 1797⟩) = False := fun i => by simp
          have n2 : ∀ i, ((⟨L + 2 + 1, i⟩ : Nm) = ⟨L + 1, 2661⟩) = False := fun i => by simp
          have n3 : ∀ i, ((⟨L + 1, 1797⟩ : Nm) = ⟨L + 2 + 1, i⟩) = False := fun i => by simp
          have n4 : ∀ i, ((⟨L + 1, 2661⟩ : Nm) = ⟨L + 2 + 1, i⟩) = False := fun i => by simp
          have n5 : ∀ k, ((⟨L + 2 + 1, k⟩ : Nm) = blkS (L + 2) i) = False := fun k => by simp [blkS]
          have n6 : ∀ k, (blkS (L + 2) i = (⟨L + 2 + 1, k⟩ : Nm)) = False := fun k => by simp [blkS]
          have n7 : ∀ k, (blkS (L + 2) i = (⟨L + 1, k⟩ : Nm)) = False := fun k => by simp [blkS]
          have n8 : ∀ k, ((⟨L + 1, k⟩ : Nm) = blkS (L + 2) i) = False := fun k => by simp [blkS]
          have m1 : ∀ k, (blkS (L + 2) i == (⟨L + 2 + 1, k⟩ : Nm)) = false := fun k => by simp [blkS]
          have m2 : ∀ k, ((⟨L + 2 + 1, k⟩ : Nm) == blkS (L + 2) i) = false := fun k => by simp [blkS]
          have r1 : (rowsS st pr (out.getD st 0) false s (i + 1)).length = i + 1 := by simp [rowsS]
          rw [h1, h2, h3, h4]
          simp only [setPs, List.zip_cons_cons, List.zip_nil_right, q1, q2, q3, n1, n2, n3, n4, n5, n6, n7, n8, m1, m2, r1, cxr, dRow, Nat.add_zero, go_sem, Meths.get, meths, Nat.reduceSub, Nat.reduceAdd, Nat.reduceMul, Nat.reduceEqDiff, Nat.reduceLT, Nat.reduceLeDiff, Nat.reduceBEq, Nat.reduceBNe, reduceIte, reduceCtorEq, Int.reduceToNat, String.reduceEq]
          have z1 : (((i + 1 : Nat) : Int) == 0) = (i + 1 == 0) := by simp; omega
          refine ⟨⟨by omega, by omega⟩, rfl, _, Sub.refl _ _ _, [384], rfl, by simp, ?_, ?_⟩
          · simp only [uS, Nat.add_sub_cancel, Nat.add_eq_zero_iff, Nat.succ_ne_zero, and_false, if_false, List.cons_append, List.nil_append]
            refine ⟨Nat.le_refl _, BN_dead, Nat.le_succ _, ?_, Nat.le_succ _, ?_, Nat.le_refl _, ?_, trivial⟩
            · rw [show kp (L + 1 + 1) (1000 * (i + 1 + 1) + 544) [384] ⟨L + 1, 1797⟩ = ⟨L + 1, 1797⟩ by simp [kp]]
              exact .pure (by simp only [Tx.look, if_true, dRow, z1])
            · rw [show kp (L + 1 + 1) (1000 * (i + 1 + 1) + 544) [384] ⟨L + 1, 2661⟩ = ⟨L + 1, 2661⟩ by simp [kp]]
              refine .ren (rs := [[.sl ⟨L + 3, 384⟩ 0 (i + 1 + 1)]]) (by simp [Tx.look, n8]) ?_ ?_
              · simp [rowsNm, nmA, nmAL, Dn]
              · simp [Tx.rn, Tx.rnL, sg, blkS]
            · rw [show blkS (L + 2) (i + 1) = ⟨L + 1 + 1, 1000 * (i + 1 + 1) + 544⟩ from rfl, kp_at0 (by simp)]
              refine .pure ?_
              rw [show rowsS st pr (out.getD st 0) false s (i + 1 + 1) = rowsS st pr (out.getD st 0) false s (i + 1) ++ [dRow st pr (out.getD st 0) false (i + 1 == 0) false (pieceS s (i + 1))] by simp [rowsS, List.range_succ]]
              simp [Tx.look, n8, n5, n6, n7, dRow]; omega
          · exact ⟨.inr (by simp [uS, keys]), .inl rfl, .inr (by simp [uS, keys]), .inl rfl, .inr (by simp [uS, keys]), trivial⟩
      · intro i hi
        by_cases h0 : i = 0 <;> simp [uS, keys, h0, blkS]
      · intro F4 hF4 hF5
        obtain ⟨p1, p2, p3⟩ := uS_at (F := F4) (L := L + 2) (nd := ⟨L + 1, 1797⟩) (no := ⟨L + 1, 2661⟩) (st := st) (pr := pr) (sq := out.getD st 0) (lo := false) (s := s) (by simp) (by simp) (by simp) M
        refine ⟨[1000 * (M + 1) + 544], rfl, by simp, ⟨Nat.le_refl _, ?_, Nat.le_refl _, ?_, Nat.le_refl _, ?_, trivial⟩, updAll_HF (fun i x hx => ?_) _⟩
        · rw [show kp (L + 1) 2758 [1000 * (M + 1) + 544] ⟨L + 1, 1797⟩ = ⟨L + 1, 1797⟩ by simp [kp]]
          exact .pure p1
        · rw [show kp (L + 1) 2758 [1000 * (M + 1) + 544] ⟨L + 1, 2661⟩ = ⟨L + 1, 2661⟩ by simp [kp]]
          refine .ren p2 ?_ ?_
          · simp [rowsNm, nmA, nmAL, Dn, blkS]
          · simp [Tx.rn, Tx.rnL, sg, blkS]
        · rw [kp_at0 (by simp)]
          exact .pure p3
        · by_cases h0 : i = 0
          · simp [uS, h0] at hx
            rcases hx with rfl | rfl | rfl <;> simp [keys, blkS]
          · simp [uS, h0] at hx
            rcases hx with rfl | rfl | rfl | rfl <;> simp [keys, blkS]
    · have r1 : (rowsS st pr (out.getD st 0) false s (M + 1)).length = M + 1 := by simp [rowsS]
      have r2 : (((M + 1 : Nat) : Int) - 1).toNat = M := by omega
      simp only [r1, r2, dRow, Nat.add_zero, go_sem, Meths.get, meths, Nat.reduceSub, Nat.reduceAdd, Nat.reduceMul, Nat.reduceEqDiff, Nat.reduceLT, Nat.reduceLeDiff, Nat.reduceBEq, Nat.reduceBNe, reduceIte, reduceCtorEq, Int.reduceToNat, String.reduceEq]
      refine ⟨⟨by omega, by omega⟩, ⟨by omega, by omega⟩, by omega, by kernel_rfl, okDyn_num (·.i) (by kernel_rfl), ?_⟩
      have eP := piecesS_eq st pr (out.getD st 0) false s M
      rw [eP, hM]
      refine .now (.val [193, 194, 195, 196, 2758] (.inr rfl) (by simp) (p := True) (v0 := .tup [.agg [.sl ⟨L + 1, 193⟩ 0 out.length, .sl ⟨L + 1, 194⟩ 0 inn.length, .sl ⟨L + 1, 195⟩ 0 0, .int .i64 num, .int .i64 (-1), .sl ⟨L + 1, 196⟩ 0 0], .sl ⟨L + 1, 2758⟩ 0 (M + 1), .int .i64 0]) ?_ trivial ?_ ?_ ⟨Nat.le_refl _, ?_, Nat.le_refl _, ?_, Nat.le_refl _, ?_, Nat.le_refl _, ?_, Nat.le_refl _, ?_, trivial⟩ ?_)
      · simp only [resVal, resVals, resVal1, one, Nat.add_zero, go_sem, Meths.get, meths, Nat.reduceSub, Nat.reduceAdd, Nat.reduceMul, Nat.reduceEqDiff, Nat.reduceLT, Nat.reduceLeDiff, Nat.reduceBEq, Nat.reduceBNe, reduceIte, reduceCtorEq, Int.reduceToNat, String.reduceEq]
      · simp [nmA, nmAL, Dn]
      · simp [Tx.rn, Tx.rnL, sg, List.idxOf, List.findIdx, List.findIdx.go]
      · rw [kp_at0 (by simp)]
        exact .pure (by simp [Tx.look, outS, eI])
      · rw [kp_at (by simp)]
        exact .pure (by simp [Tx.look])
      · rw [kp_at (by simp)]
        exact .pure (by simp [Tx.look])
      · rw [kp_at (by simp)]
        exact .pure (by simp [Tx.look])
      · rw [kp_at (by simp)]
        exact .pure (by simp [Tx.look, seqS])
      · exact ⟨.inl rfl, .inl rfl, .inl rfl, .inl rfl, .inl rfl, .inl rfl, .inl rfl, .inl rfl, .inl rfl, .inl rfl, .inl rfl, .inl rfl, .inl rfl, trivial⟩
end Go.Proofs.Ytfhhbkehlfipgaa
end
