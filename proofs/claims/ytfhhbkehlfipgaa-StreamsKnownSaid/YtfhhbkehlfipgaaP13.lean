/- Lemmas for the walk: YC9, YC35, YC36, YC37, YC56, YC62, YC63, YC64, YC65, YC31, YC32. -/
import Derived.Test.YtfhhbkehlfipgaaP09
import Derived.Test.YtfhhbkehlfipgaaP12
import Derived.Test.YtfhhbkehlfipgaaP11
import Derived.Test.YtfhhbkehlfipgaaP10
set_option linter.all false
section
namespace Go.Proofs.Ytfhhbkehlfipgaa
open Go.Tx
set_option maxRecDepth 100000
set_option maxHeartbeats 16000000
def dRow (st pr sq : Int) (lo fi la : Bool) (pay : List UInt8) : List PV := [.int .i64 0, .int .i64 st, .int .i64 sq, .int .i64 pr, .bool fi, .bool la, .bool lo, .str pay]
def rowsS (st pr sq : Int) (lo : Bool) (s : List UInt8) (n : Nat) : List (List PV) := (List.range n).map fun i => dRow st pr sq lo (i == 0) false (pieceS s i)
def blkS (L i : Nat) : Nm := ⟨L, 1000 * (i + 1) + 544⟩
def uS (L : Nat) (nd no : Nm) (st pr sq : Int) (lo : Bool) (s : List UInt8) (i : Nat) : List (Nm × SBlk) :=
 (if i = 0 then [] else [(blkS L (i - 1), .dead)]) ++ [(nd, .rows 43 8 true true [dRow st pr sq lo (i == 0) false (pieceS s i)]), (no, .rows 32 1 true false [[.sl (blkS L i) 0 (i + 1)]]), (blkS L i, .rows 43 8 true true (rowsS st pr sq lo s (i + 1)))]
noncomputable def cxr (L l : Nat) : Cx := ⟨Try.prog, tys, meths, false, L, some l, []⟩
theorem cxOk' (L l : Nat) : (cxr L l).Ok := ⟨tysOk, fieldsOk, mixedOk, methsOk⟩
theorem updAll_set {L : Nat} {ks : List Nm} {n : Nm} {b : SBlk} (hn : n.l = L + 1 ∨ n ∈ ks) : ∀ {H : List (Nm × SBlk)}, UpdAll L ks H → UpdAll L ks (setH H n b)
 | [], _ => ⟨hn, trivial⟩
 | (m, c) :: l, h => by
  simp only [setH]
  split
  ·exact ⟨by first | exact hn | exact h.1, h.2⟩
  ·exact ⟨h.1, updAll_set hn h.2⟩
theorem updAll_upd {L : Nat} {ks : List Nm} : ∀ (l H : List (Nm × SBlk)), (∀ x ∈ l, x.1.l = L + 1 ∨ x.1 ∈ ks) → UpdAll L ks H → UpdAll L ks (updH H l)
 | [], H, _, h => h
 | (n, b) :: l, H, hl, h => by
  simp only [updH]
  exact updAll_upd l _ (fun x hx => hl x (by simp [hx])) (updAll_set (hl (n, b) (by simp)) h)
theorem updAll_HF {L : Nat} {ks : List Nm} {u : Nat → List (Nm × SBlk)} (h : ∀ i, ∀ x ∈ u i, x.1.l = L + 1 ∨ x.1 ∈ ks) : ∀ i, UpdAll L ks (HF u i)
 | 0 => trivial
 | i + 1 => updAll_upd _ _ (h i) (updAll_HF h i)
theorem upd_app : ∀ (F : SF) (l l' : List (Nm × SBlk)), F.upd (l ++ l') = (F.upd l).upd l'
 | F, [], l' => rfl
 | F, (n, b) :: l, l' => by simp only [List.cons_append, SF.upd]; exact upd_app _ l l'
theorem uS_at {F : SF} {L : Nat} {nd no : Nm} {st pr sq : Int} {lo : Bool} {s : List UInt8} (h1 : nd.l < L) (h2 : no.l < L) (h3 : nd ≠ no) (i : Nat) :
  Tx.look F (HF (uS L nd no st pr sq lo s) (i + 1)) nd = some (.rows 43 8 true true [dRow st pr sq lo (i == 0) false (pieceS s i)]) ∧
  Tx.look F (HF (uS L nd no st pr sq lo s) (i + 1)) no = some (.rows 32 1 true false [[.sl (blkS L i) 0 (i + 1)]]) ∧
  Tx.look F (HF (uS L nd no st pr sq lo s) (i + 1)) (blkS L i) = some (.rows 43 8 true true (rowsS st pr sq lo s (i + 1))) := by
 have e1 : nd ≠ blkS L i := by rintro rfl; simp [blkS] at h1
 have e2 : no ≠ blkS L i := by rintro rfl; simp [blkS] at h2
 rw [look_HF]
 simp only [uS, upd_app, SF.upd, SF.set]
 refine ⟨?_, ?_, ?_⟩
 ·rw [if_neg e1, if_neg h3, if_pos trivial]
 ·rw [if_neg e2, if_pos trivial]
 ·rw [if_pos trivial]
def outS (out : List Int) (st : Nat) (lo : Bool) : List Int := if lo then out else out.set st ((out.getD st 0 + 1) % 65536)
def seqS (out : List Int) (st : Nat) (lo : Bool) : Int := if lo then 0 else out.getD st 0
def piecesS (st pr sq : Int) (lo : Bool) (s : List UInt8) (n : Nat) : List (List PV) := (List.range n).map fun i => dRow st pr sq lo (i == 0) (i + 1 == n) (pieceS s i)
theorem piecesS_eq (st pr sq : Int) (lo : Bool) (s : List UInt8) (M : Nat) : (rowsS st pr sq lo s (M + 1)).set M (List.take 5 ((rowsS st pr sq lo s (M + 1)).getD M []) ++ [.bool true] ++ List.drop 6 ((rowsS st pr sq lo s (M + 1)).getD M [])) = piecesS st pr sq lo s (M + 1) := by
 have hg : (rowsS st pr sq lo s (M + 1)).getD M [] = dRow st pr sq lo (M == 0) false (pieceS s M) := by simp [rowsS, List.getD_eq_getElem?_getD]
 rw [hg]
 apply List.ext_getElem?
 intro k
 rw [List.getElem?_set]
 by_cases hk : M = k
 ·subst hk
  simp [rowsS, piecesS, dRow]
 ·rw [if_neg hk]
  simp only [rowsS, piecesS, List.getElem?_map]
  by_cases hl : k < M + 1
  ·rw [List.getElem?_range hl]
   simp only [Option.map_some, Option.some.injEq]
   have : (k + 1 == M + 1) = false := by simp; omega
   rw [this]
  ·rw [List.getElem?_eq_none (by simp; omega)]; rfl
theorem send0_ok {F : SF} {L nx : Nat} (out inn : List Int) (num : Int) (ho : 1 ≤ out.length) (ho2 : out.length ≤ 16) (ho3 : out.all (serB 16) = true) (hi : 1 ≤ inn.length) (hi2 : inn.length ≤ 16) (hi3 : inn.all (serB 16) = true)
  (hn : [num].all (serB 32) = true) (st : Nat) (pr : Int) (lo : Bool) (s : List UInt8) (hst : st < out.length) (hpr : [pr].all (serB 32) = true) (hs1 : 1 ≤ s.length) (hs2 : s.length ≤ 8000) :
  Con Try.prog 12 [.agg [.fs 1 (out.map eI), .fs 1 (inn.map eI), .fs 8 [], .int .i64 num, .int .i64 (-1), .fs 1 []], .agg [.int .i64 st, .int .i64 pr, .bool lo, .str s]] F L nx (nx + 5) (.tup [.agg [.sl ⟨L, nx⟩ 0 out.length, .sl ⟨L, nx + 1⟩ 0 inn.length, .sl ⟨L, nx + 2⟩ 0 0, .int .i64 num, .int .i64 (-1), .sl ⟨L, nx + 3⟩ 0 0], .sl ⟨L, nx + 4⟩ 0 ((s.length + 999) / 1000), .int .i64 0])
   [(⟨L, nx⟩, .rows 3 1 true true ((outS out st lo).map eI)), (⟨L, nx + 1⟩, .rows 3 1 true true (inn.map eI)), (⟨L, nx + 2⟩, .rows 43 8 true true []), (⟨L, nx + 3⟩, .rows 3 1 true true []), (⟨L, nx + 4⟩, .rows 43 8 true true (piecesS st pr (seqS out st lo) lo s ((s.length + 999) / 1000)))] [] := by
 refine bdyN Try.f12 ?_
 intro F3 hF1 hF2
 simp only [Try.f12, cx, go_sem, meths]
 refine CallVC.same (begin0_ok out inn [] num (-1) (.inl rfl) ho ho2 ho3 hi hi2 hi3 hn rfl (by simp)) ?_
 have f0 : ((0 : Int) != 0) = false := rfl
 have f1 : decide ((st : Int) < 0) = false := dF (by omega)
 have f2 : decide ((st : Int) ≥ (out.length : Int)) = false := dF (by omega)
 have f2' : decide ((out.length : Int) ≤ (st : Int)) = false := dF (by omega)
 have f3 : decide ((s.length : Int) < 1) = false := dF (by omega)
 have f4 : decide ((8000 : Int) < (s.length : Int)) = false := dF (by omega)
 simp only [f0, f1, f2, List.length_map, Nat.add_zero, go_sem]
 refine CallVC.pure (args2 := [_, .fs 1 ([pr].map eI)]) ⟨rfl, ?_, trivial⟩ (serial_ok 32 [pr] (by omega) (by omega) (by simp)) rfl ?_
 ·simp [Wk, eI]
 simp only [hpr, wkNL, wkN, f3, f4, Nat.add_zero, go_sem]
 refine CallVC.same (contains_ok [] st (by simp)) ?_
 simp only [List.any_nil, Nat.add_zero, go_sem]
 cases lo with
 | true =>
  simp only [go_sem]
  refine CallVC.same (pieces_ok s) ?_
  simp only [go_sem]
  obtain ⟨M, hM⟩ : ∃ M, (s.length + 999) / 1000 = M + 1 := ⟨(s.length + 999) / 1000 - 1, by omega⟩
  refine rangeK.intro (v := .tup []) (top := 2055) (rd := [⟨L + 1, 1797⟩, ⟨L + 1, 1957⟩, ⟨L + 1, 2053⟩]) (upd := [(⟨L + 1, 1797⟩, .rows 43 8 true true [dRow st pr 0 true (M == 0) false (pieceS s M)]), (⟨L + 1, 1957⟩, .rows 32 1 true false [[.sl ⟨L + 1, 2054⟩ 0 (M + 1)]]), (⟨L + 1, 2054⟩, .rows 43 8 true true (rowsS st pr 0 true s (M + 1)))]) (f := 83) (fl := []) (cl := [.ptr ⟨L + 1, 2053⟩ 0 0]) (by simp only [evalT, List.getD_cons_zero, List.getD_cons_succ]) rfl ⟨Try.f83, by kernel_rfl, by rfl, by kernel_rfl⟩ [none, none, none, none, none, none, none, none, none, some (.ptr ⟨L + 1, 1797⟩ 0 0), some (.ptr ⟨L + 1, 1957⟩ 0 0), none, none, none, none, none, none, none, none, none, none, none, none, none, none, none, none, none, none, none, none, none, none, none, none, none, none, none, none, none, none, none, none, none, none, none, none, none, none, none, none, none, none, none, none, none, none, none, none, none, none, none, none, none, none, none, none, none, none, none, none, none, none, none, none, none, none, none, none, none, none, none, none, none, none, none, none, none, none, none, none, none, none, none, none, none, none, none, none, none, none, none, none, none, none, none, none, none, none, none, none, none, none, none, none, none, none, none] ?_ ?_ ?_
  ·simp only [go_sem, subT, and_self]
  ·intro y h1 h2 h3 h4
   refine pieces1_ok (L := L + 1) (k := 1) (rd := [⟨L + 1, 1797⟩, ⟨L + 1, 1957⟩, ⟨L + 1, 2053⟩]) s (by omega) ⟨L + 1, 2053⟩ true true ?_ (by simp) (by simp) y (M + 1) hM.symm (uS (L + 2) ⟨L + 1, 1797⟩ ⟨L + 1, 1957⟩ st pr 0 true s) (fun i => if i = 0 then [⟨L + 1, 1797⟩, ⟨L + 1, 1957⟩] else [⟨L + 1, 1797⟩, ⟨L + 1, 1957⟩, blkS (L + 2) (i - 1)]) ?_ ?_ ?_
   ·simp [Tx.look]
   ·intro F4 hF4 i hi
    cases i with
    | zero =>
     refine YCon.body (cxOk' (L + 3) y.l) (by rfl) (by rfl) (k := 1) (by rfl) (by simp) (by rw [h1]; rfl) (by rw [h1, h4]; simp) ?_
     intro F5 hF5 hF6
     have q1 : F5 ⟨L + 1, 1797⟩ = some (.rows 43 8 true true [dRow st pr 0 true false false []]) := by
      rw [hF5 _ (by simp)]; show F4 _ = _; rw [hF4 _ (by simp)]; simp [Tx.look, dRow]
     have q2 : F5 ⟨L + 1, 1957⟩ = some (.rows 32 1 true true [[.nilS]]) := by
      rw [hF5 _ (by simp)]; show F4 _ = _; rw [hF4 _ (by simp)]; simp [Tx.look]
     have n1 : ∀ i, ((⟨L + 2 + 1, i⟩ : Nm) = ⟨L + 1, 1797⟩) = False := fun i => by simp
     have n2 : ∀ i, ((⟨L + 2 + 1, i⟩ : Nm) = ⟨L + 1, 1957⟩) = False := fun i => by simp
     have n3 : ∀ i, ((⟨L + 1, 1797⟩ : Nm) = ⟨L + 2 + 1, i⟩) = False := fun i => by simp
     have n4 : ∀ i, ((⟨L + 1, 1957⟩ : Nm) = ⟨L + 2 + 1, i⟩) = False := fun i => by simp
     rw [h1, h2, h3, h4]
     simp only [setPs, List.zip_cons_cons, List.zip_nil_right, q1, q2, n1, n4, cxr, dRow, go_sem, meths]
     refine ⟨rfl, _, Sub.refl _ _ _, [384], rfl, by simp, ?_, ?_⟩
     ·simp only [uS, if_true, List.nil_append]
      refine ⟨Nat.le_succ _, ?_, Nat.le_succ _, ?_, Nat.le_refl _, ?_, trivial⟩
      ·rw [show kp (L + 1 + 1) 1544 [384] ⟨L + 1, 1797⟩ = ⟨L + 1, 1797⟩ by simp [kp]]
       exact .pure (by simp [Tx.look, dRow])
      ·rw [show kp (L + 1 + 1) 1544 [384] ⟨L + 1, 1957⟩ = ⟨L + 1, 1957⟩ by simp [kp]]
       refine .ren (rs := [[.sl ⟨L + 3, 384⟩ 0 1]]) (by simp [Tx.look]) ?_ ?_
       ·simp [rowsNm, nmA, nmAL, Dn]
       ·simp [Tx.rn, Tx.rnL, sg, blkS]
      ·rw [show blkS (L + 2) 0 = ⟨L + 1 + 1, 1544⟩ from rfl, kp_at0 (by simp)]
       exact .pure (by simp [Tx.look, rowsS, dRow, List.range_succ])
     ·exact ⟨.inr (by simp [uS, keys]), .inl rfl, .inl rfl, .inr (by simp [uS, keys]), trivial⟩
    | succ i =>
     obtain ⟨p1, p2, p3⟩ := uS_at (F := F4) (L := L + 2) (nd := ⟨L + 1, 1797⟩) (no := ⟨L + 1, 1957⟩) (st := st) (pr := pr) (sq := 0) (lo := true) (s := s) (by simp) (by simp) (by simp) i
     refine YCon.body (cxOk' (L + 3) y.l) (by rfl) (by rfl) (k := 1) (by rfl) (by simp [blkS]) (by rw [h1]; rfl) (by rw [h1, h4]; simp) ?_
     intro F5 hF5 hF6
     have q1 := (hF5 ⟨L + 1, 1797⟩ (by simp)).trans p1
     have q2 := (hF5 ⟨L + 1, 1957⟩ (by simp)).trans p2
     have q3 := (hF5 (blkS (L + 2) i) (by simp)).trans p3
     have n1 : ∀ i, ((⟨L + 2 + 1, i⟩ : Nm) = ⟨L + 1, 1797⟩) = False := fun i => by simp
     have n2 : ∀ i, ((⟨L + 2 + 1, i⟩ : Nm) = ⟨L + 1, 1957⟩) = False := fun i => by simp
     have n3 : ∀ i, ((⟨L + 1, 1797⟩ : Nm) = ⟨L + 2 + 1, i⟩) = False := fun i => by simp
     have n4 : ∀ i, ((⟨L + 1, 1957⟩ : Nm) = ⟨L + 2 + 1, i⟩) = False := fun i => by simp
     have n5 : ∀ k, ((⟨L + 2 + 1, k⟩ : Nm) = blkS (L + 2) i) = False := fun k => by simp [blkS]
     have n6 : ∀ k, (blkS (L + 2) i = (⟨L + 2 + 1, k⟩ : Nm)) = False := fun k => by simp [blkS]
     have n7 : ∀ k, (blkS (L + 2) i = (⟨L + 1, k⟩ : Nm)) = False := fun k => by simp [blkS]
     have n8 : ∀ k, ((⟨L + 1, k⟩ : Nm) = blkS (L + 2) i) = False := fun k => by simp [blkS]
     have m1 : ∀ k, (blkS (L + 2) i == (⟨L + 2 + 1, k⟩ : Nm)) = false := fun k => by simp [blkS]
     have m2 : ∀ k, ((⟨L + 2 + 1, k⟩ : Nm) == blkS (L + 2) i) = false := fun k => by simp [blkS]
     have r1 : (rowsS st pr 0 true s (i + 1)).length = i + 1 := by simp [rowsS]
     rw [h1, h2, h3, h4]
     simp only [setPs, List.zip_cons_cons, List.zip_nil_right, q1, q2, q3, n1, n4, n5, n6, n7, n8, m1, r1, cxr, dRow, go_sem, meths]
     have z1 : (((i + 1 : Nat) : Int) == 0) = (i + 1 == 0) := by simp; omega
     refine ⟨⟨by omega, by omega⟩, rfl, _, Sub.refl _ _ _, [384], rfl, by simp, ?_, ?_⟩
     ·simp only [uS, Nat.add_sub_cancel, Nat.succ_ne_zero, if_false, List.cons_append, List.nil_append]
      refine ⟨Nat.le_refl _, BN_dead, Nat.le_succ _, ?_, Nat.le_succ _, ?_, Nat.le_refl _, ?_, trivial⟩
      ·rw [show kp (L + 1 + 1) (1000 * (i + 1 + 1) + 544) [384] ⟨L + 1, 1797⟩ = ⟨L + 1, 1797⟩ by simp [kp]]
       exact .pure (by simp only [Tx.look, if_true, dRow, z1])
      ·rw [show kp (L + 1 + 1) (1000 * (i + 1 + 1) + 544) [384] ⟨L + 1, 1957⟩ = ⟨L + 1, 1957⟩ by simp [kp]]
       refine .ren (rs := [[.sl ⟨L + 3, 384⟩ 0 (i + 1 + 1)]]) (by simp [Tx.look, n8]) ?_ ?_
       ·simp [rowsNm, nmA, nmAL, Dn]
       ·simp [Tx.rn, Tx.rnL, sg, blkS]
      ·rw [show blkS (L + 2) (i + 1) = ⟨L + 1 + 1, 1000 * (i + 1 + 1) + 544⟩ from rfl, kp_at0 (by simp)]
       refine .pure ?_
       rw [show rowsS st pr 0 true s (i + 1 + 1) = rowsS st pr 0 true s (i + 1) ++ [dRow st pr 0 true (i + 1 == 0) false (pieceS s (i + 1))] by simp [rowsS, List.range_succ]]
       simp [Tx.look, n5, dRow]; omega
     ·exact ⟨.inr (by simp [uS, keys]), .inl rfl, .inr (by simp [uS, keys]), .inl rfl, .inr (by simp [uS, keys]), trivial⟩
   ·intro i hi
    by_cases h0 : i = 0 <;> simp [uS, keys, h0, blkS]
   ·intro F4 hF4 hF5
    obtain ⟨p1, p2, p3⟩ := uS_at (F := F4) (L := L + 2) (nd := ⟨L + 1, 1797⟩) (no := ⟨L + 1, 1957⟩) (st := st) (pr := pr) (sq := 0) (lo := true) (s := s) (by simp) (by simp) (by simp) M
    refine ⟨[1000 * (M + 1) + 544], rfl, by simp, ⟨Nat.le_refl _, ?_, Nat.le_refl _, ?_, Nat.le_refl _, ?_, trivial⟩, updAll_HF (fun i x hx => ?_) _⟩
    ·rw [show kp (L + 1) 2054 [1000 * (M + 1) + 544] ⟨L + 1, 1797⟩ = ⟨L + 1, 1797⟩ by simp [kp]]
     exact .pure p1
    ·rw [show kp (L + 1) 2054 [1000 * (M + 1) + 544] ⟨L + 1, 1957⟩ = ⟨L + 1, 1957⟩ by simp [kp]]
     refine .ren p2 ?_ ?_
     ·simp [rowsNm, nmA, nmAL, Dn, blkS]
     ·simp [Tx.rn, Tx.rnL, sg, blkS]
    ·rw [kp_at0 (by simp)]
     exact .pure p3
    ·by_cases h0 : i = 0
     ·simp [uS, h0] at hx
      rcases hx with rfl | rfl | rfl <;> simp [keys, blkS]
     ·simp [uS, h0] at hx
      rcases hx with rfl | rfl | rfl | rfl <;> simp [keys, blkS]
  ·have r1 : (rowsS st pr 0 true s (M + 1)).length = M + 1 := by simp [rowsS]
   have r2 : (((M + 1 : Nat) : Int) - 1).toNat = M := by omega
   simp only [r1, r2, dRow, Nat.add_zero, go_sem]
   refine ⟨⟨by omega, by omega⟩, ⟨by omega, by omega⟩, by omega, by kernel_rfl, okDyn_num (·.i) (by kernel_rfl), ?_⟩
   have eP := piecesS_eq st pr 0 true s M
   rw [eP, hM]
   refine .now (.val [193, 194, 195, 196, 2054] (.inr rfl) (by simp) (p := True) (v0 := .tup [.agg [.sl ⟨L + 1, 193⟩ 0 out.length, .sl ⟨L + 1, 194⟩ 0 inn.length, .sl ⟨L + 1, 195⟩ 0 0, .int .i64 num, .int .i64 (-1), .sl ⟨L + 1, 196⟩ 0 0], .sl ⟨L + 1, 2054⟩ 0 (M + 1), .int .i64 0]) ?_ trivial ?_ ?_ ⟨Nat.le_refl _, ?_, Nat.le_refl _, ?_, Nat.le_refl _, ?_, Nat.le_refl _, ?_, Nat.le_refl _, ?_, trivial⟩ ?_)
   ·simp only [resVal, resVals, resVal1, one, go_sem]
   ·simp [nmA, nmAL, Dn]
   ·simp [Tx.rn, Tx.rnL, sg, List.idxOf, List.findIdx, List.findIdx.go]
   ·rw [kp_at0 (by simp)]
    exact .pure (by simp [Tx.look, outS])
   ·rw [kp_at (by simp)]
    exact .pure (by simp [Tx.look])
   ·rw [kp_at (by simp)]
    exact .pure (by simp [Tx.look])
   ·rw [kp_at (by simp)]
    exact .pure (by simp [Tx.look])
   ·rw [kp_at (by simp)]
    exact .pure (by simp [Tx.look, seqS])
   ·exact ⟨.inl rfl, .inl rfl, .inl rfl, .inl rfl, .inl rfl, .inl rfl, .inl rfl, .inl rfl, .inl rfl, .inl rfl, .inl rfl, .inl rfl, .inl rfl, trivial⟩
 | false =>
  have hz := List.all_eq_true.1 ho3 (out.getD st 0) (by rw [List.getD_eq_getElem?_getD, List.getElem?_eq_getElem hst]; simp)
  simp only [serB, Bool.and_eq_true, decide_eq_true_eq] at hz
  have e0 := getD_eI out hst
  simp only [e0, eI, go_sem]
  refine ⟨by kernel_rfl, ⟨by omega, by omega⟩, by simpa using hst, okDyn_num (·.i) (by kernel_rfl), by kernel_rfl, ?_⟩
  have h65 : (2 : Int) ^ (Int.toNat 16) = 65536 := rfl
  refine CallVC.same (behind_ok (out.getD st 0) 16 hz.1 (by have := hz.2; omega) (by omega) (by omega)) ?_
  simp only [e0, eI, Int.toNat_natCast, go_sem]
  refine ⟨⟨by omega, by omega⟩, by simpa using hst, okDyn_num (·.i) (by kernel_rfl), ?_⟩
  refine CallVC.same (pieces_ok s) ?_
  simp only [go_sem]
  obtain ⟨M, hM⟩ : ∃ M, (s.length + 999) / 1000 = M + 1 := ⟨(s.length + 999) / 1000 - 1, by omega⟩
  refine rangeK.intro (v := .tup []) (top := 2759) (rd := [⟨L + 1, 1797⟩, ⟨L + 1, 2661⟩, ⟨L + 1, 2757⟩]) (upd := [(⟨L + 1, 1797⟩, .rows 43 8 true true [dRow st pr (out.getD st 0) false (M == 0) false (pieceS s M)]), (⟨L + 1, 2661⟩, .rows 32 1 true false [[.sl ⟨L + 1, 2758⟩ 0 (M + 1)]]), (⟨L + 1, 2758⟩, .rows 43 8 true true (rowsS st pr (out.getD st 0) false s (M + 1)))]) (f := 83) (fl := []) (cl := [.ptr ⟨L + 1, 2757⟩ 0 0]) (by simp only [evalT, List.getD_cons_zero, List.getD_cons_succ]) rfl ⟨Try.f83, by kernel_rfl, by rfl, by kernel_rfl⟩ [none, none, none, none, none, none, none, none, none, some (.ptr ⟨L + 1, 1797⟩ 0 0), some (.ptr ⟨L + 1, 2661⟩ 0 0), none, none, none, none, none, none, none, none, none, none, none, none, none, none, none, none, none, none, none, none, none, none, none, none, none, none, none, none, none, none, none, none, none, none, none, none, none, none, none, none, none, none, none, none, none, none, none, none, none, none, none, none, none, none, none, none, none, none, none, none, none, none, none, none, none, none, none, none, none, none, none, none, none, none, none, none, none, none, none, none, none, none, none, none, none, none, none, none, none, none, none, none, none, none, none, none, none, none, none, none, none, none, none, none, none, none, none] ?_ ?_ ?_
  ·simp only [go_sem, subT, and_self]
  ·intro y h1 h2 h3 h4
   refine pieces1_ok (L := L + 1) (k := 1) (rd := [⟨L + 1, 1797⟩, ⟨L + 1, 2661⟩, ⟨L + 1, 2757⟩]) s (by omega) ⟨L + 1, 2757⟩ true true ?_ (by simp) (by simp) y (M + 1) hM.symm (uS (L + 2) ⟨L + 1, 1797⟩ ⟨L + 1, 2661⟩ st pr (out.getD st 0) false s) (fun i => if i = 0 then [⟨L + 1, 1797⟩, ⟨L + 1, 2661⟩] else [⟨L + 1, 1797⟩, ⟨L + 1, 2661⟩, blkS (L + 2) (i - 1)]) ?_ ?_ ?_
   ·simp [Tx.look]
   ·intro F4 hF4 i hi
    cases i with
    | zero =>
     refine YCon.body (cxOk' (L + 3) y.l) (by rfl) (by rfl) (k := 1) (by rfl) (by simp) (by rw [h1]; rfl) (by rw [h1, h4]; simp) ?_
     intro F5 hF5 hF6
     have q1 : F5 ⟨L + 1, 1797⟩ = some (.rows 43 8 true true [dRow st pr (out.getD st 0) false false false []]) := by
      rw [hF5 _ (by simp)]; show F4 _ = _; rw [hF4 _ (by simp)]; simp [Tx.look, dRow]
     have q2 : F5 ⟨L + 1, 2661⟩ = some (.rows 32 1 true true [[.nilS]]) := by
      rw [hF5 _ (by simp)]; show F4 _ = _; rw [hF4 _ (by simp)]; simp [Tx.look]
     have n1 : ∀ i, ((⟨L + 2 + 1, i⟩ : Nm) = ⟨L + 1, 1797⟩) = False := fun i => by simp
     have n2 : ∀ i, ((⟨L + 2 + 1, i⟩ : Nm) = ⟨L + 1, 2661⟩) = False := fun i => by simp
     have n3 : ∀ i, ((⟨L + 1, 1797⟩ : Nm) = ⟨L + 2 + 1, i⟩) = False := fun i => by simp
     have n4 : ∀ i, ((⟨L + 1, 2661⟩ : Nm) = ⟨L + 2 + 1, i⟩) = False := fun i => by simp
     rw [h1, h2, h3, h4]
     simp only [setPs, List.zip_cons_cons, List.zip_nil_right, q1, q2, n1, n4, cxr, dRow, go_sem, meths]
     refine ⟨rfl, _, Sub.refl _ _ _, [384], rfl, by simp, ?_, ?_⟩
     ·simp only [uS, if_true, List.nil_append]
      refine ⟨Nat.le_succ _, ?_, Nat.le_succ _, ?_, Nat.le_refl _, ?_, trivial⟩
      ·rw [show kp (L + 1 + 1) 1544 [384] ⟨L + 1, 1797⟩ = ⟨L + 1, 1797⟩ by simp [kp]]
       exact .pure (by simp [Tx.look, dRow])
      ·rw [show kp (L + 1 + 1) 1544 [384] ⟨L + 1, 2661⟩ = ⟨L + 1, 2661⟩ by simp [kp]]
       refine .ren (rs := [[.sl ⟨L + 3, 384⟩ 0 1]]) (by simp [Tx.look]) ?_ ?_
       ·simp [rowsNm, nmA, nmAL, Dn]
       ·simp [Tx.rn, Tx.rnL, sg, blkS]
      ·rw [show blkS (L + 2) 0 = ⟨L + 1 + 1, 1544⟩ from rfl, kp_at0 (by simp)]
       exact .pure (by simp [Tx.look, rowsS, dRow, List.range_succ])
     ·exact ⟨.inr (by simp [uS, keys]), .inl rfl, .inl rfl, .inr (by simp [uS, keys]), trivial⟩
    | succ i =>
     obtain ⟨p1, p2, p3⟩ := uS_at (F := F4) (L := L + 2) (nd := ⟨L + 1, 1797⟩) (no := ⟨L + 1, 2661⟩) (st := st) (pr := pr) (sq := out.getD st 0) (lo := false) (s := s) (by simp) (by simp) (by simp) i
     refine YCon.body (cxOk' (L + 3) y.l) (by rfl) (by rfl) (k := 1) (by rfl) (by simp [blkS]) (by rw [h1]; rfl) (by rw [h1, h4]; simp) ?_
     intro F5 hF5 hF6
     have q1 := (hF5 ⟨L + 1, 1797⟩ (by simp)).trans p1
     have q2 := (hF5 ⟨L + 1, 2661⟩ (by simp)).trans p2
     have q3 := (hF5 (blkS (L + 2) i) (by simp)).trans p3
     have n1 : ∀ i, ((⟨L + 2 + 1, i⟩ : Nm) = ⟨L + 1, 1797⟩) = False := fun i => by simp
     have n2 : ∀ i, ((⟨L + 2 + 1, i⟩ : Nm) = ⟨L + 1, 2661⟩) = False := fun i => by simp
     have n3 : ∀ i, ((⟨L + 1, 1797⟩ : Nm) = ⟨L + 2 + 1, i⟩) = False := fun i => by simp
     have n4 : ∀ i, ((⟨L + 1, 2661⟩ : Nm) = ⟨L + 2 + 1, i⟩) = False := fun i => by simp
     have n5 : ∀ k, ((⟨L + 2 + 1, k⟩ : Nm) = blkS (L + 2) i) = False := fun k => by simp [blkS]
     have n6 : ∀ k, (blkS (L + 2) i = (⟨L + 2 + 1, k⟩ : Nm)) = False := fun k => by simp [blkS]
     have n7 : ∀ k, (blkS (L + 2) i = (⟨L + 1, k⟩ : Nm)) = False := fun k => by simp [blkS]
     have n8 : ∀ k, ((⟨L + 1, k⟩ : Nm) = blkS (L + 2) i) = False := fun k => by simp [blkS]
     have m1 : ∀ k, (blkS (L + 2) i == (⟨L + 2 + 1, k⟩ : Nm)) = false := fun k => by simp [blkS]
     have m2 : ∀ k, ((⟨L + 2 + 1, k⟩ : Nm) == blkS (L + 2) i) = false := fun k => by simp [blkS]
     have r1 : (rowsS st pr (out.getD st 0) false s (i + 1)).length = i + 1 := by simp [rowsS]
     rw [h1, h2, h3, h4]
     simp only [setPs, List.zip_cons_cons, List.zip_nil_right, q1, q2, q3, n1, n4, n5, n6, n7, n8, m1, r1, cxr, dRow, go_sem, meths]
     have z1 : (((i + 1 : Nat) : Int) == 0) = (i + 1 == 0) := by simp; omega
     refine ⟨⟨by omega, by omega⟩, rfl, _, Sub.refl _ _ _, [384], rfl, by simp, ?_, ?_⟩
     ·simp only [uS, Nat.add_sub_cancel, Nat.succ_ne_zero, if_false, List.cons_append, List.nil_append]
      refine ⟨Nat.le_refl _, BN_dead, Nat.le_succ _, ?_, Nat.le_succ _, ?_, Nat.le_refl _, ?_, trivial⟩
      ·rw [show kp (L + 1 + 1) (1000 * (i + 1 + 1) + 544) [384] ⟨L + 1, 1797⟩ = ⟨L + 1, 1797⟩ by simp [kp]]
       exact .pure (by simp only [Tx.look, if_true, dRow, z1])
      ·rw [show kp (L + 1 + 1) (1000 * (i + 1 + 1) + 544) [384] ⟨L + 1, 2661⟩ = ⟨L + 1, 2661⟩ by simp [kp]]
       refine .ren (rs := [[.sl ⟨L + 3, 384⟩ 0 (i + 1 + 1)]]) (by simp [Tx.look, n8]) ?_ ?_
       ·simp [rowsNm, nmA, nmAL, Dn]
       ·simp [Tx.rn, Tx.rnL, sg, blkS]
      ·rw [show blkS (L + 2) (i + 1) = ⟨L + 1 + 1, 1000 * (i + 1 + 1) + 544⟩ from rfl, kp_at0 (by simp)]
       refine .pure ?_
       rw [show rowsS st pr (out.getD st 0) false s (i + 1 + 1) = rowsS st pr (out.getD st 0) false s (i + 1) ++ [dRow st pr (out.getD st 0) false (i + 1 == 0) false (pieceS s (i + 1))] by simp [rowsS, List.range_succ]]
       simp [Tx.look, n5, dRow]; omega
     ·exact ⟨.inr (by simp [uS, keys]), .inl rfl, .inr (by simp [uS, keys]), .inl rfl, .inr (by simp [uS, keys]), trivial⟩
   ·intro i hi
    by_cases h0 : i = 0 <;> simp [uS, keys, h0, blkS]
   ·intro F4 hF4 hF5
    obtain ⟨p1, p2, p3⟩ := uS_at (F := F4) (L := L + 2) (nd := ⟨L + 1, 1797⟩) (no := ⟨L + 1, 2661⟩) (st := st) (pr := pr) (sq := out.getD st 0) (lo := false) (s := s) (by simp) (by simp) (by simp) M
    refine ⟨[1000 * (M + 1) + 544], rfl, by simp, ⟨Nat.le_refl _, ?_, Nat.le_refl _, ?_, Nat.le_refl _, ?_, trivial⟩, updAll_HF (fun i x hx => ?_) _⟩
    ·rw [show kp (L + 1) 2758 [1000 * (M + 1) + 544] ⟨L + 1, 1797⟩ = ⟨L + 1, 1797⟩ by simp [kp]]
     exact .pure p1
    ·rw [show kp (L + 1) 2758 [1000 * (M + 1) + 544] ⟨L + 1, 2661⟩ = ⟨L + 1, 2661⟩ by simp [kp]]
     refine .ren p2 ?_ ?_
     ·simp [rowsNm, nmA, nmAL, Dn, blkS]
     ·simp [Tx.rn, Tx.rnL, sg, blkS]
    ·rw [kp_at0 (by simp)]
     exact .pure p3
    ·by_cases h0 : i = 0
     ·simp [uS, h0] at hx
      rcases hx with rfl | rfl | rfl <;> simp [keys, blkS]
     ·simp [uS, h0] at hx
      rcases hx with rfl | rfl | rfl | rfl <;> simp [keys, blkS]
  ·have r1 : (rowsS st pr (out.getD st 0) false s (M + 1)).length = M + 1 := by simp [rowsS]
   have r2 : (((M + 1 : Nat) : Int) - 1).toNat = M := by omega
   simp only [r1, r2, dRow, Nat.add_zero, go_sem]
   refine ⟨⟨by omega, by omega⟩, ⟨by omega, by omega⟩, by omega, by kernel_rfl, okDyn_num (·.i) (by kernel_rfl), ?_⟩
   have eP := piecesS_eq st pr (out.getD st 0) false s M
   rw [eP, hM]
   refine .now (.val [193, 194, 195, 196, 2758] (.inr rfl) (by simp) (p := True) (v0 := .tup [.agg [.sl ⟨L + 1, 193⟩ 0 out.length, .sl ⟨L + 1, 194⟩ 0 inn.length, .sl ⟨L + 1, 195⟩ 0 0, .int .i64 num, .int .i64 (-1), .sl ⟨L + 1, 196⟩ 0 0], .sl ⟨L + 1, 2758⟩ 0 (M + 1), .int .i64 0]) ?_ trivial ?_ ?_ ⟨Nat.le_refl _, ?_, Nat.le_refl _, ?_, Nat.le_refl _, ?_, Nat.le_refl _, ?_, Nat.le_refl _, ?_, trivial⟩ ?_)
   ·simp only [resVal, resVals, resVal1, one, go_sem]
   ·simp [nmA, nmAL, Dn]
   ·simp [Tx.rn, Tx.rnL, sg, List.idxOf, List.findIdx, List.findIdx.go]
   ·rw [kp_at0 (by simp)]
    exact .pure (by simp [Tx.look, outS, eI])
   ·rw [kp_at (by simp)]
    exact .pure (by simp [Tx.look])
   ·rw [kp_at (by simp)]
    exact .pure (by simp [Tx.look])
   ·rw [kp_at (by simp)]
    exact .pure (by simp [Tx.look])
   ·rw [kp_at (by simp)]
    exact .pure (by simp [Tx.look, seqS])
   ·exact ⟨.inl rfl, .inl rfl, .inl rfl, .inl rfl, .inl rfl, .inl rfl, .inl rfl, .inl rfl, .inl rfl, .inl rfl, .inl rfl, .inl rfl, .inl rfl, trivial⟩
def sendD (st pr sq : Int) (lo : Bool) (s : List UInt8) (n : Nat) : List Dat := (List.range n).map fun i => ⟨0, st, sq, pr, i == 0, i + 1 == n, lo, pieceS s i⟩
theorem sendD_row (st pr sq : Int) (lo : Bool) (s : List UInt8) (n : Nat) : (sendD st pr sq lo s n).map Dat.row = piecesS st pr sq lo s n := by
 simp only [sendD, piecesS, List.map_map]; rfl
theorem sendD_len (st pr sq : Int) (lo : Bool) (s : List UInt8) (n : Nat) : (sendD st pr sq lo s n).length = n := by simp [sendD]
theorem outS_len (out : List Int) (st : Nat) (lo : Bool) : (outS out st lo).length = out.length := by unfold outS; split <;> simp
theorem sendF_ok {F : SF} {L nx : Nat} (out inn : List Int) (num : Int) (ho : 1 ≤ out.length) (ho2 : out.length ≤ 16) (ho3 : out.all (serB 16) = true) (hi : 1 ≤ inn.length) (hi2 : inn.length ≤ 16) (hi3 : inn.all (serB 16) = true)
  (hn : [num].all (serB 32) = true) (st : Nat) (pr : Int) (lo : Bool) (s : List UInt8) (hst : st < out.length) (hpr : [pr].all (serB 32) = true) (hs1 : 1 ≤ s.length) (hs2 : s.length ≤ 8000) :
  Con Try.prog 12 [strV out inn num (-1) [] [], .agg [.int .i64 st, .int .i64 pr, .bool lo, .str s]] F L nx nx (.tup [strV (outS out st lo) inn num (-1) [] [], .fs 8 ((sendD st pr (seqS out st lo) lo s ((s.length + 999) / 1000)).map Dat.row), .int .i64 0]) [] [] := by
 have h := send0_ok (F := F) (L := L + 1) (nx := 0) out inn num ho ho2 ho3 hi hi2 hi3 hn st pr lo s hst hpr hs1 hs2
 have e1 := outS_len out st lo
 have e2 : (piecesS st pr (seqS out st lo) lo s ((s.length + 999) / 1000)).length = (s.length + 999) / 1000 := by simp [piecesS]
 rw [sendD_row]
 refine Con.frozen h (by simp [keys]) (fun F => ?_) ?_ ?_
 ·simp [strV, Wk, WkL, SF.upd, SF.set, e1, e2, List.take_of_length_le]
 ·simp [strV, wkN, wkNL]
 ·simp [strV, Tx.nf, nfl]
theorem new_ok {F : SF} {L nx : Nat} (n m : Nat) (hn : 1 ≤ n) (hn2 : n ≤ 16) (hm : 1 ≤ m) (hm2 : m ≤ 16) :
  Con Try.prog 20 [.int .i64 n, .int .i64 m] F L nx nx (.tup [strV (zrs n) (zrs m) 0 (-1) [] [], .int .i64 0]) [] [] := by
 have f1 : decide ((n : Int) < 1) = false := dF (by omega)
 have f2 : decide ((16 : Int) < (n : Int)) = false := dF (by omega)
 have f3 : decide ((m : Int) < 1) = false := dF (by omega)
 have f4 : decide ((16 : Int) < (m : Int)) = false := dF (by omega)
 refine bdy Try.f20 ?_
 intro F3 hF1 hF2
 simp only [Try.f20, cx, strV, f1, f2, f3, f4, go_sem, meths]
 repeat refine sd1 ?_
 exact PostF.rs (v0 := .tup [.agg [.sl ⟨L + 1, 544⟩ 0 n, .sl ⟨L + 1, 608⟩ 0 m, .nilS, .int .i64 0, .int .i64 (-1), .nilS], .int .i64 0] ) (.inr rfl) (hw := by simp [Wk, WkL, Tx.look, List.take_of_length_le, zrs, eI])
structure ComX where
 i : Nat
 q : Nat
 inn : List Int
 ps : List Dat
 out : List Msg
def comI (out inn : List Int) (num seen : Int) (asked : List Int) (ps : List Dat) (l : List Dat) (z : ComX) : Prop :=
 z.i ≤ l.length ∧ Str0 out z.inn num seen asked ∧ z.inn.length = inn.length ∧ PsOk z.inn z.ps ∧ dueG z.inn z.ps = none ∧ z.ps.length ≤ ps.length + z.i ∧ z.out.length ≤ 81 * z.i ∧ comesG z.inn z.ps (l.drop z.i) z.out = comesG inn ps l [] ∧ 160 ≤ z.q ∧ z.q < 10000 * (z.i + 1)
theorem delG_out : ∀ (k : Nat) (inn : List Int) (ps : List Dat) (out : List Msg), (delG k inn ps out).2.2.length ≤ k + out.length
 | 0, _, _, _ => by simp [delG]
 | k + 1, inn, ps, out => by
  rw [delG]
  split
  ·simp
  ·rename_i m ns _
   simp only
   split
   ·refine Nat.le_trans (delG_out k _ _ _) (by simp; omega)
   ·refine Nat.le_trans (delG_out k _ _ _) (by simp; omega)
theorem takeG_out (inn : List Int) (ps : List Dat) (d : Dat) : (takeG inn ps d).2.2.length ≤ ps.length + 1 := by
 unfold takeG
 split
 ·simp
 ·exact Nat.le_trans (delG_out _ _ _ _) (by simp)
theorem comes_ok {F : SF} {L nx : Nat} (out inn asked : List Int) (num seen : Int) (hS : Str0 out inn num seen asked) (ps : List Dat) (hP : PsOk inn ps) (hD : dueG inn ps = none) (l : List Dat) (hl : ∀ d ∈ l, d.ok = true ∧ d.st < inn.length) (hlen : ps.length + l.length ≤ 80) :
  Con Try.prog 22 [strV out inn num seen asked ps, .fs 8 (l.map Dat.row)] F L nx nx (.tup [strV out (comesG inn ps l []).1 num seen asked (comesG inn ps l []).2.1, .fs 4 ((comesG inn ps l []).2.2.map Msg.row), .bool true]) [] [] := by
 have f0 : ((0 : Int) != 0) = false := rfl
 refine bdy Try.f22 ?_
 intro F3 hF1 hF2
 simp only [Try.f22, cx, strV, List.length_map, go_sem, meths]
 refine loopK.intro _ _ (I := fun z : ComX => ⟨[none, none, some (.ptr ⟨L + 1, 0⟩ 0 0), none, some (.ptr ⟨L + 1, 32⟩ 0 0), none, none, some (.sl ⟨L + 1, z.q⟩ 0 z.out.length), none, none, none, none, none, some (.fs 8 (l.map Dat.row)), some (.int .i64 l.length), some (.int .i64 z.i), none, none, none, none, none, none, none, none, none, none, none, none, none, none, none, none, none, none, none, none, none, none, none, none, none],
  [(⟨L + 1, 0⟩, .rows 34 6 true true [[.fs 1 (out.map eI), .fs 1 (z.inn.map eI), .fs 8 (z.ps.map Dat.row), .int .i64 num, .int .i64 seen, .fs 1 (asked.map eI)]]), (⟨L + 1, 32⟩, .rows 34 6 true true [[.nilS, .nilS, .nilS, .int .i64 0, .int .i64 0, .nilS]]), (⟨L + 1, z.q⟩, .rows 37 4 true true (z.out.map Msg.row))], 10000 * (z.i + 1)⟩)
  (pre := comI out inn num seen asked ps l) (μ := fun z => l.length - z.i) ⟨0, 256, inn, ps, []⟩ ⟨by simp, hS, rfl, hP, hD, by simp, by simp, rfl, by simp, by simp⟩ ?_ ?_
 ·refine Sub.trans (Sub.nilName 7 37 (wd := 4) (by omega) rfl) ?_
  refine Sub.of (hfz hF2) (by simp only [go_sem, subT, and_self, Int.natCast_zero]) ?_ (by simp [subK, keys, updH, setH]) (by simp)
  simp [subH, Tx.look, updH, setH]
 ·rintro ⟨i, q, inn1, ps1, out1⟩ ⟨h1, h2, h3, h4, h5, h6, h7, h8, k1, k2⟩
  simp only at h1 h2 h3 h4 h5 h6 h7 h8 k1 k2 ⊢
  have q_0 : (q = 0) = False := by apply eq_false; omega
  have n0_q : (0 = q) = False := by apply eq_false; omega
  have q_32 : (q = 32) = False := by apply eq_false; omega
  have n32_q : (32 = q) = False := by apply eq_false; omega
  have q_n1 : ∀ kk, (10000 * (i + 1) + kk = q) = False := fun kk => by apply eq_false; omega
  have q_n2 : ∀ kk, (q = 10000 * (i + 1) + kk) = False := fun kk => by apply eq_false; omega
  have q_n3 : (10000 * (i + 1) = q) = False := by apply eq_false; omega
  have q_n4 : (q = 10000 * (i + 1)) = False := by apply eq_false; omega
  have q_n5 : ∀ kk, ((⟨L + 1, q⟩ : Nm) == ⟨L + 1, 10000 * (i + 1) + kk⟩) = false := fun kk => by simp; omega
  by_cases hlt : i < l.length
  ·have f1 : decide ((i : Int) < (l.length : Int)) = true := dT (by omega)
   have r0 := rowD' hlt
   obtain ⟨d, hd⟩ : ∃ d, d = l[i] := ⟨_, rfl⟩
   obtain ⟨e1, e2⟩ := hl d (by rw [hd]; exact List.getElem_mem hlt)
   rw [← hd] at r0
   rw [List.drop_eq_getElem_cons hlt, ← hd, comesG] at h8
   have hv := takeG_valid h4 h5 h2.i3 (d := d) (by omega) e1 (by omega)
   have hle := takeG_le inn1 ps1 d
   have hol := takeG_out inn1 ps1 d
   have hln := takeG_len inn1 ps1 d
   have hp80 := h4.len
   have htk := fun F L nx => take_ok (F := F) (L := L) (nx := nx) out inn1 asked num seen h2 ps1 h4 h5 d e1 (by omega) (by omega)
   obtain ⟨r, hr⟩ : ∃ r, r = takeG inn1 ps1 d := ⟨_, rfl⟩
   rw [← hr] at hv hle hol hln h8
   have hS2 := h2.inn hln hv.2.2
   have hck := fun F L nx => check_ok (F := F) (L := L) (nx := nx) out r.1 asked num seen hS2 r.2.1 hv.1 hv.2.1
   simp only [← hr] at htk
   simp only [strV, Dat.row] at htk
   simp only [strV] at hck
   simp only [f1, r0, Dat.row, Nat.add_assoc, n0_q, q_n1, List.length_map, go_sem]
   repeat refine sd1 ?_
   refine CallVC.same (htk _ _ _) ?_
   simp only [f0, nS2, Nat.add_assoc, q_n1, go_sem]
   repeat refine sd1 ?_
   refine CallVC.same (hck _ _ _) ?_
   simp only [f0, nS2, Nat.add_assoc, q_0, n0_q, q_32, q_n1, q_n2, List.length_map, go_sem]
   refine ⟨by kernel_rfl, ⟨by omega, by omega⟩, okDyn_num (fun x => if x.i = q then 1 else x.i % 10000 + 100) (by simp only [numF, List.map, n0_q, q_n1, if_true, if_false, Nat.mul_add_mod, Nat.reduceMod]; kernel_rfl), ⟨by omega, by omega⟩, ⟨i + 1, 10000 * (i + 1) + 768, r.1, r.2.1, out1 ++ r.2.2⟩, ⟨by simp only []; omega, hS2, by simp only []; omega, hv.1, hv.2.1, by simp only []; omega, by simp; omega, h8, by simp only []; omega, by simp only []; omega⟩, by simp only []; omega, ?_⟩
   refine Sub.of (hfz hF2) (by simp only [List.length_append, go_sem, subT, and_self, Int.natCast_succ]) ?_ (by simp [subK, keys]) (by simp only []; omega)
   simp [subH, Tx.look, nB, q_n1]
  ·have f1 : decide ((i : Int) < (l.length : Int)) = false := dF (by omega)
   have e : i = l.length := by omega
   subst e
   rw [List.drop_of_length_le (Nat.le_refl _), comesG] at h8
   rw [← h8]
   simp only [f1, Nat.add_assoc, n0_q, n32_q, go_sem]
   exact PostF.rs (v0 := .tup [.agg [.fs 1 (out.map eI), .fs 1 (inn1.map eI), .fs 8 (ps1.map Dat.row), .int .i64 num, .int .i64 seen, .fs 1 (asked.map eI)], .sl ⟨L + 1, q⟩ 0 out1.length, .bool true] ) (.inr rfl) (hw := by simp [Wk, WkL, Tx.look, List.take_of_length_le, q_0, q_32])
def stamp (f : Int) (k : Nat) (ds : List Dat) (j : Nat) : Dat := { ds.getD j datZ with tsn := (f + ((k + j : Nat) : Int)) % 4294967296 }
def stampL (f : Int) (k : Nat) (ds : List Dat) (j : Nat) : List Dat := (List.range j).map (stamp f k ds)
def cutsM (out : List Int) (m : Msg) : List Dat := sendD m.st m.pr (seqS out m.st.toNat m.lo) m.lo m.tx ((m.tx.length + 999) / 1000)
def numG (f : Int) : List Int → List Msg → List Dat → List Int × List Dat
 | out, [], acc => (out, acc)
 | out, m :: l, acc => numG f (outS out m.st.toNat m.lo) l (acc ++ stampL f acc.length (cutsM out m) (cutsM out m).length)
def MsgOk (n : Nat) (m : Msg) : Prop := 0 ≤ m.st ∧ m.st < n ∧ [m.pr].all (serB 32) = true ∧ 1 ≤ m.tx.length ∧ m.tx.length ≤ 8000
theorem stampL_len (f : Int) (k : Nat) (ds : List Dat) (j : Nat) : (stampL f k ds j).length = j := by simp [stampL]
theorem outS_ser {out : List Int} (h : out.all (serB 16) = true) (st : Nat) (lo : Bool) : (outS out st lo).all (serB 16) = true := by
 unfold outS
 split
 ·exact h
 ·have h16 : (2 : Int) ^ (Int.toNat 16) = 65536 := rfl
  rw [List.all_eq_true] at h ⊢
  intro x hx
  rcases List.mem_or_eq_of_mem_set hx with hx | rfl
  ·exact h x hx
  ·simp only [serB, h16, Bool.and_eq_true, decide_eq_true_eq]; omega
structure NumX where
 k : Nat
 i : Nat
 q : Nat
 out : List Int
 acc : List Dat
structure NumY where
 j : Nat
 i : Nat
 q : Nat
def numI (f : Int) (out : List Int) (l : List Msg) (z : NumX) : Prop :=
 z.k ≤ l.length ∧ z.out.length = out.length ∧ z.out.all (serB 16) = true ∧ z.acc.length ≤ 8 * z.k ∧ numG f z.out (l.drop z.k) z.acc = numG f out l [] ∧ 192 ≤ z.q ∧ z.q < 10000 * (z.i + 1)
theorem numbered_ok {F : SF} {L nx : Nat} (out inn : List Int) (num : Int) (ho : 1 ≤ out.length) (ho2 : out.length ≤ 16) (ho3 : out.all (serB 16) = true) (hi : 1 ≤ inn.length) (hi2 : inn.length ≤ 16) (hi3 : inn.all (serB 16) = true)
  (hn : [num].all (serB 32) = true) (l : List Msg) (hl : ∀ m ∈ l, MsgOk out.length m) (hlen : l.length ≤ 1000) (f : Int) (hf0 : 0 ≤ f) (hf1 : f < 1099511627776) :
  Con Try.prog 21 [strV out inn num (-1) [] [], .fs 4 (l.map Msg.row), .int .i64 f] F L nx nx (.tup [strV (numG f out l []).1 inn num (-1) [] [], .fs 8 ((numG f out l []).2.map Dat.row), .bool true]) [] [] := by
 have f0 : ((0 : Int) != 0) = false := rfl
 refine bdy Try.f21 ?_
 intro F3 hF1 hF2
 simp only [Try.f21, cx, strV, List.length_map, go_sem, meths]
 refine loopK.intro _ _ (I := fun z : NumX => ⟨[none, none, some (.int .i64 f), some (.ptr ⟨L + 1, 0⟩ 0 0), none, none, some (.ptr ⟨L + 1, 32⟩ 0 0), none, none, some (.sl ⟨L + 1, z.q⟩ 0 z.acc.length), none, none, none, none, none, none, none, some (.fs 4 (l.map Msg.row)), some (.int .i64 l.length), some (.int .i64 z.k), none, none, none, none, none, none, none, none, none, none, none, none, none, none, none, none, none, none, none, none, none, none, none, none, none, none, none, none, none, none, none, none, none, none, none, none, none, none, none],
  [(⟨L + 1, 0⟩, .rows 34 6 true true [[.fs 1 (z.out.map eI), .fs 1 (inn.map eI), .fs 8 [], .int .i64 num, .int .i64 (-1), .fs 1 []]]), (⟨L + 1, 32⟩, .rows 34 6 true true [[.nilS, .nilS, .nilS, .int .i64 0, .int .i64 0, .nilS]]), (⟨L + 1, z.q⟩, .rows 43 8 true true (z.acc.map Dat.row))], 10000 * (z.i + 1)⟩)
  (pre := numI f out l) (μ := fun z => l.length - z.k) ⟨0, 0, 256, out, []⟩ ⟨by simp, rfl, ho3, by simp, rfl, by simp, by simp⟩ ?_ ?_
 ·refine Sub.trans (Sub.nilName 9 43 (wd := 8) (by omega) rfl) ?_
  refine Sub.of (hfz hF2) (by simp only [go_sem, subT, and_self, Int.natCast_zero]) ?_ (by simp [subK, keys, updH, setH]) (by simp)
  simp [subH, Tx.look, updH, setH]
 ·rintro ⟨k, i, q, out1, acc⟩ ⟨h1, h2, h3, h4, h5, k1, k2⟩
  simp only at h1 h2 h3 h4 h5 k1 k2 ⊢
  have q_0 : (q = 0) = False := by apply eq_false; omega
  have n0_q : (0 = q) = False := by apply eq_false; omega
  have q_32 : (q = 32) = False := by apply eq_false; omega
  have n32_q : (32 = q) = False := by apply eq_false; omega
  have q_n1 : ∀ kk, (10000 * (i + 1) + kk = q) = False := fun kk => by apply eq_false; omega
  have q_n2 : ∀ kk, (q = 10000 * (i + 1) + kk) = False := fun kk => by apply eq_false; omega
  have q_n3 : (10000 * (i + 1) = q) = False := by apply eq_false; omega
  have q_n4 : (q = 10000 * (i + 1)) = False := by apply eq_false; omega
  have q_n5 : ∀ kk, ((⟨L + 1, q⟩ : Nm) == ⟨L + 1, 10000 * (i + 1) + kk⟩) = false := fun kk => by simp; omega
  by_cases hlt : k < l.length
  ·have f1 : decide ((k : Int) < (l.length : Int)) = true := dT (by omega)
   have r0 : (l.map Msg.row).getD k [] = l[k].row := by simp [hlt, List.getD_eq_getElem?_getD]
   obtain ⟨m, hm⟩ : ∃ m, m = l[k] := ⟨_, rfl⟩
   obtain ⟨e1, e2, e3, e4, e5⟩ := hl m (by rw [hm]; exact List.getElem_mem hlt)
   rw [← hm] at r0
   rw [List.drop_eq_getElem_cons hlt, ← hm, numG] at h5
   have est : ((m.st.toNat : Nat) : Int) = m.st := by omega
   have hsd := fun F L nx => sendF_ok (F := F) (L := L) (nx := nx) out1 inn num (by omega) (by omega) h3 hi hi2 hi3 hn m.st.toNat m.pr m.lo m.tx (by omega) e3 e4 e5
   rw [est] at hsd
   obtain ⟨ds, hds⟩ : ∃ ds, ds = cutsM out1 m := ⟨_, rfl⟩
   have hdl : ds.length = (m.tx.length + 999) / 1000 := by rw [hds, cutsM, sendD_len]
   have hdl1 : 1 ≤ ds.length ∧ ds.length ≤ 8 := by omega
   rw [← hds] at h5
   rw [show sendD m.st m.pr (seqS out1 m.st.toNat m.lo) m.lo m.tx ((m.tx.length + 999) / 1000) = ds from hds.symm] at hsd
   obtain ⟨out2, hout2⟩ : ∃ x, x = outS out1 m.st.toNat m.lo := ⟨_, rfl⟩
   have ho2l : out2.length = out1.length := by rw [hout2]; exact outS_len _ _ _
   have ho2s : out2.all (serB 16) = true := by rw [hout2]; exact outS_ser h3 _ _
   simp only [← hout2, strV, List.map_nil] at hsd
   rw [← hout2] at h5
   simp only [f1, r0, Msg.row, Nat.add_assoc, n0_q, q_n1, List.length_map, go_sem]
   repeat refine sd1 ?_
   refine CallVC.same (hsd _ _ _) ?_
   have f2 : ((ds.length : Int) == 0) = false := eqF (by omega)
   simp only [f0, f2, nS2, Nat.add_assoc, q_n1, List.length_map, go_sem]
   repeat refine sd1 ?_
   obtain ⟨a, ha⟩ : ∃ a, a = 10000 * (i + 1) + 352 := ⟨_, rfl⟩
   rw [← ha]
   refine loopK.intro _ _ (I := fun z : NumY => ⟨[none, none, some (.int .i64 f), some (.ptr ⟨L + 1, 0⟩ 0 0), none, none, some (.ptr ⟨L + 1, 32⟩ 0 0), none, none, some (.sl ⟨L + 1, z.q⟩ 0 (acc.length + z.j)), none, none, some (.ptr ⟨L + 1, a⟩ 0 0), none, none, none, none, some (.fs 4 (l.map Msg.row)), some (.int .i64 l.length), some (.int .i64 k), none, none, none, none, none, none, none, none, none, none, none, none, none, none, none, none, none, none, some (.fs 8 (ds.map Dat.row)), some (.int .i64 ds.length), some (.int .i64 z.j), none, none, none, none, none, none, none, none, none, none, none, none, none, none, none, none, none, none],
    [(⟨L + 1, 0⟩, .rows 34 6 true true [[.fs 1 (out1.map eI), .fs 1 (inn.map eI), .fs 8 [], .int .i64 num, .int .i64 (-1), .fs 1 []]]), (⟨L + 1, 32⟩, .rows 34 6 true true [[.nilS, .nilS, .nilS, .int .i64 0, .int .i64 0, .nilS]]), (⟨L + 1, a⟩, .rows 34 6 true true [[.fs 1 (out2.map eI), .fs 1 (inn.map eI), .fs 8 [], .int .i64 num, .int .i64 (-1), .fs 1 []]]), (⟨L + 1, z.q⟩, .rows 43 8 true true ((acc ++ stampL f acc.length ds z.j).map Dat.row))], 10000 * (z.i + 1)⟩)
    (pre := fun z => z.j ≤ ds.length ∧ 192 ≤ z.q ∧ z.q < 10000 * (z.i + 1) ∧ a < 10000 * (z.i + 1) ∧ z.q ≠ a) (μ := fun z => ds.length - z.j) ⟨0, i + 1, q⟩ ⟨by simp, by simp only []; omega, by simp only []; omega, by simp only []; omega, by simp only []; omega⟩ ?_ ?_
   ·have n1 : (a = 0) = False := by apply eq_false; omega
    have n2 : (a = 32) = False := by apply eq_false; omega
    have n3 : (a = q) = False := by apply eq_false; omega
    refine Sub.of (hfz hF2) (by simp only [go_sem, subT, and_self, Int.natCast_zero, Nat.add_zero]) ?_ (by simp [subK, keys]) (by simp only []; omega)
    have n4 : (a = 10000 * (i + 1) + 96) = False := by apply eq_false; omega
    simp [subH, Tx.look, stampL, n1, n2, n3, n4, q_0, q_32]
   ·have hi1 : 10000 ≤ a := by omega
    clear q_n1 q_n2 q_n3 q_n4 q_n5 q_0 q_32 n0_q n32_q
    clear ha k1 k2
    clear i q
    rintro ⟨j, i, q⟩ ⟨g1, g2, g3, g4, g5⟩
    simp only at g1 g2 g3 g4 g5 ⊢
    have q_0 : (q = 0) = False := by apply eq_false; omega
    have n0_q : (0 = q) = False := by apply eq_false; omega
    have q_32 : (q = 32) = False := by apply eq_false; omega
    have n32_q : (32 = q) = False := by apply eq_false; omega
    have q_a : (q = a) = False := by apply eq_false; omega
    have na_q : (a = q) = False := by apply eq_false; omega
    have q_n1 : ∀ kk, (10000 * (i + 1) + kk = q) = False := fun kk => by apply eq_false; omega
    have q_n2 : ∀ kk, (q = 10000 * (i + 1) + kk) = False := fun kk => by apply eq_false; omega
    have q_n3 : (10000 * (i + 1) = q) = False := by apply eq_false; omega
    have q_n4 : (q = 10000 * (i + 1)) = False := by apply eq_false; omega
    have q_n5 : ∀ kk, ((⟨L + 1, q⟩ : Nm) == ⟨L + 1, 10000 * (i + 1) + kk⟩) = false := fun kk => by simp; omega
    have a_0 : (a = 0) = False := by apply eq_false; omega
    have n0_a : (0 = a) = False := by apply eq_false; omega
    have a_32 : (a = 32) = False := by apply eq_false; omega
    have n32_a : (32 = a) = False := by apply eq_false; omega
    have a_n1 : ∀ kk, (10000 * (i + 1) + kk = a) = False := fun kk => by apply eq_false; omega
    have a_n2 : ∀ kk, (a = 10000 * (i + 1) + kk) = False := fun kk => by apply eq_false; omega
    have a_n3 : (10000 * (i + 1) = a) = False := by apply eq_false; omega
    have a_n4 : (a = 10000 * (i + 1)) = False := by apply eq_false; omega
    have a_n5 : ∀ kk, ((⟨L + 1, a⟩ : Nm) == ⟨L + 1, 10000 * (i + 1) + kk⟩) = false := fun kk => by simp; omega
    have hel : (acc ++ stampL f acc.length ds j).length = acc.length + j := by rw [List.length_append, stampL_len]
    by_cases hjt : j < ds.length
    ·have f1 : decide ((j : Int) < (ds.length : Int)) = true := dT (by omega)
     have r0 : (ds.map Dat.row).getD j [] = (ds.getD j datZ).row := by simp [hjt, List.getD_eq_getElem?_getD]
     have e11 : Go.Sx.ibits .and .i64 (f + ((acc.length + j : Nat) : Int)) 4294967295 = (f + ((acc.length + j : Nat) : Int)) % 4294967296 := and_mask (f + ((acc.length + j : Nat) : Int)) 32 (by omega)
     have e12 : stampL f acc.length ds (j + 1) = stampL f acc.length ds j ++ [stamp f acc.length ds j] := by simp [stampL, List.range_succ]
     have e13 : acc ++ stampL f acc.length ds (j + 1) = (acc ++ stampL f acc.length ds j) ++ [stamp f acc.length ds j] := by rw [e12, List.append_assoc]
     obtain ⟨R, hR⟩ : ∃ R, R = acc ++ stampL f acc.length ds j := ⟨_, rfl⟩
     rw [← hR] at hel e13 ⊢
     obtain ⟨d, hd⟩ : ∃ d, d = ds.getD j datZ := ⟨_, rfl⟩
     rw [← hd] at r0
     have e14 : (stamp f acc.length ds j).row = [.int .i64 ((f + ((acc.length + j : Nat) : Int)) % 4294967296), .int .i64 d.st, .int .i64 d.sq, .int .i64 d.pr, .bool d.fi, .bool d.la, .bool d.lo, .str d.pl] := by rw [stamp, ← hd]; rfl
     simp only [f1, r0, e11, Dat.row, nS2, Nat.add_assoc, q_0, q_32, q_a, q_n1, q_n2, q_n5, a_n1, List.length_map, Nat.add_zero, go_sem]
     repeat refine And.intro (by first | omega | exact ⟨by omega, by omega⟩) ?_
     refine ⟨⟨j + 1, i + 1, 10000 * (i + 1) + 480⟩, ⟨by simp only []; omega, by simp only []; omega, by simp only []; omega, by simp only []; omega, by simp only []; omega⟩, by simp only []; omega, ?_⟩
     refine Sub.o hF2 ?_
     simp [subH, Tx.look, e13, e14, nB, q_n1, a_0, a_32, a_n1]
    ·have f1 : decide ((j : Int) < (ds.length : Int)) = false := dF (by omega)
     have e : j = ds.length := by omega
     subst e
     simp only [f1, Nat.add_assoc, n0_q, n32_q, na_q, a_0, n0_a, a_32, n32_a, go_sem]
     repeat refine And.intro (by first | omega | exact ⟨by omega, by omega⟩) ?_
     refine ⟨⟨k + 1, i + 1, q, out2, acc ++ stampL f acc.length ds ds.length⟩, ⟨by simp only []; omega, by simp only []; omega, ho2s, by simp [stampL_len]; omega, h5, by simp only []; omega, by simp only []; omega⟩, by simp only []; omega, ?_⟩
     refine Sub.of (hfz hF2) (by simp only [hel, go_sem, subT, and_self, Int.natCast_succ]) ?_ (by simp [subK, keys]) (by simp only []; omega)
     simp [subH, Tx.look, q_0, q_32, q_a]
  ·have f1 : decide ((k : Int) < (l.length : Int)) = false := dF (by omega)
   have e : k = l.length := by omega
   subst e
   rw [List.drop_of_length_le (Nat.le_refl _), numG] at h5
   rw [← h5]
   simp only [f1, Nat.add_assoc, n0_q, n32_q, go_sem]
   exact PostF.rs (v0 := .tup [.agg [.fs 1 (out1.map eI), .fs 1 (inn.map eI), .fs 8 [], .int .i64 num, .int .i64 (-1), .fs 1 []], .sl ⟨L + 1, q⟩ 0 acc.length, .bool true] ) (.inr rfl) (hw := by simp [Wk, WkL, Tx.look, List.take_of_length_le, q_0, q_32])
def eqM (m m' : Msg) : Bool := m.st == m'.st && (m.pr == m'.pr && (m.lo == m'.lo && m.tx == m'.tx))
theorem eqM_iff (m m' : Msg) : eqM m m' = decide (m = m') := by
 obtain ⟨a, b, c, d⟩ := m
 obtain ⟨a', b', c', d'⟩ := m'
 rw [Bool.eq_iff_iff]
 simp [eqM]
theorem same_ok {F : SF} {L nx : Nat} (a b : List Msg) (ha : a.length ≤ 1000000) (hb : b.length ≤ 1000000) :
  Con Try.prog 28 [.fs 4 (a.map Msg.row), .fs 4 (b.map Msg.row)] F L nx nx (.bool (decide (a = b))) [] [] := by
 refine bdy Try.f28 ?_
 intro F3 hF1 hF2
 by_cases hl : a.length = b.length
 ·have f0 : ((a.length : Int) != (b.length : Int)) = false := by rw [hl]; simp
  simp only [Try.f28, cx, f0, List.length_map, go_sem, meths]
  refine loopK.intro _ _ (I := fun i : Nat => ⟨[some (.fs 4 (a.map Msg.row)), some (.fs 4 (b.map Msg.row)), none, none, none, some (.int .i64 i), none, none, none, none, none, none, none, none, none, none, none, none, none, none, none, none, none, none, none, none], [], 10000 * (i + 1)⟩) (pre := fun i => i ≤ a.length ∧ ∀ j, j < i → a[j]? = b[j]?) (μ := fun i => a.length - i) 0 ⟨by omega, by intro j h; omega⟩ ?_ ?_
  ·exact Sub.of (hfz hF2) (by simp only [go_sem, subT, and_self, Int.natCast_zero]) trivial trivial (by simp)
  ·rintro i ⟨hi, hp⟩
   by_cases hlt : i < a.length
   ·have f1 : decide ((i : Int) < (a.length : Int)) = true := dT (by omega)
    have r0 : (a.map Msg.row).getD i [] = a[i].row := by simp [hlt, List.getD_eq_getElem?_getD]
    have r1 : (b.map Msg.row).getD i [] = (b[i]'(by omega)).row := by simp [show i < b.length by omega, List.getD_eq_getElem?_getD]
    have hq := eqM_iff a[i] (b[i]'(by omega))
    unfold eqM at hq
    simp only [f1, r0, r1, Msg.row, List.length_map, Nat.add_assoc, go_sem]
    repeat refine sd1 ?_
    rw [hq]
    cases hde : decide (a[i] = b[i]'(by omega)) with
    | false =>
     have hne : a ≠ b := by rintro rfl; simp at hde
     simp only [Bool.not_false, go_sem]
     exact .bool (.inr rfl) rfl (by simp [hne]) (by simp [UpdAll])
    | true =>
     have he := of_decide_eq_true hde
     simp only [Bool.not_true, go_sem]
     refine ⟨⟨by omega, by omega⟩, i + 1, ⟨by omega, fun j hj => ?_⟩, by omega, ?_⟩
     ·by_cases hji : j = i
      ·subst hji; rw [List.getElem?_eq_getElem hlt, List.getElem?_eq_getElem (by omega), he]
      ·exact hp j (by omega)
     ·exact Sub.of (hfz hF2) (by simp only [go_sem, subT, and_self, Int.natCast_succ]) trivial trivial (by simp only []; omega)
   ·have f1 : decide ((i : Int) < (a.length : Int)) = false := dF (by omega)
    have e : a = b := by
     apply List.ext_getElem?
     intro j
     by_cases hj : j < a.length
     ·exact hp j (by omega)
     ·rw [List.getElem?_eq_none (by omega), List.getElem?_eq_none (by omega)]
    simp only [f1, List.length_map, Nat.add_assoc, go_sem]
    exact .bool (.inr rfl) rfl (by simp [e]) (by simp [UpdAll])
 ·have f0 : ((a.length : Int) != (b.length : Int)) = true := by simp; omega
  have e : a ≠ b := by rintro rfl; exact hl rfl
  simp only [Try.f28, cx, f0, List.length_map, go_sem, meths]
  exact .bool (.inr rfl) rfl (by simp [e]) (by simp [UpdAll])
theorem copied_ok {F : SF} {L nx : Nat} (out inn asked : List Int) (num seen : Int) (ps : List Dat) (h1 : out.length ≤ 1000000) (h2 : inn.length ≤ 1000000) (h3 : asked.length ≤ 1000000) (h4 : ps.length ≤ 1000000) :
  Con Try.prog 78 [strV out inn num seen asked ps] F L nx (nx + 4) (.agg [.sl ⟨L, nx⟩ 0 out.length, .sl ⟨L, nx + 1⟩ 0 inn.length, .sl ⟨L, nx + 2⟩ 0 ps.length, .int .i64 num, .int .i64 seen, .sl ⟨L, nx + 3⟩ 0 asked.length])
   [(⟨L, nx⟩, .rows 3 1 true true (out.map eI)), (⟨L, nx + 1⟩, .rows 3 1 true true (inn.map eI)), (⟨L, nx + 2⟩, .rows 43 8 true true (ps.map Dat.row)), (⟨L, nx + 3⟩, .rows 3 1 true true (asked.map eI))] [] := by
 refine bdyN Try.f78 ?_
 intro F3 hF1 hF2
 simp only [Try.f78, cx, strV, List.length_map, Nat.add_zero, go_sem, meths]
 repeat refine And.intro (by first | omega | exact ⟨by omega, by omega⟩) ?_
 refine .now (.val [288, 480, 864, 672] (.inr rfl) (by simp) (p := True) (v0 := .agg [.sl ⟨L + 1, 288⟩ 0 out.length, .sl ⟨L + 1, 480⟩ 0 inn.length, .sl ⟨L + 1, 864⟩ 0 ps.length, .int .i64 num, .int .i64 seen, .sl ⟨L + 1, 672⟩ 0 asked.length]) ?_ trivial ?_ ?_ ⟨?_, ?_, ?_, ?_, ?_, ?_, ?_, ?_, trivial⟩ ?_)
 ·simp only [resVal, resVals, resVal1, one, go_sem]
 ·simp [nmA, nmAL, Dn]
 ·simp [Tx.rn, Tx.rnL, sg, List.idxOf, List.findIdx, List.findIdx.go]
 ·simp
 ·rw [kp_at0 (by simp)]
  exact .pure (by simp [Tx.look])
 ·simp
 ·rw [kp_at (by simp)]
  exact .pure (by simp [Tx.look])
 ·simp
 ·rw [kp_at (by simp)]
  exact .pure (by simp [Tx.look])
 ·simp
 ·rw [kp_at (by simp)]
  exact .pure (by simp [Tx.look])
 ·simp [UpdAll, keys]
def plI (ps : List Dat) (t : Int) : Int := idxI (tsnB t) ps
structure RcX where
 k : Nat
 q : Nat
 x : Dat
 tx : List UInt8
 ns : List Int
def RcX.out (ps : List Dat) (z : RcX) : List Int := (z.ns ++ [z.x.tsn]).map (plI ps)
structure RcP (ps : List Dat) (d : Dat) (z : RcX) : Prop where
 q1 : 300 ≤ z.q
 q2 : z.q < 10000 * (z.k + 1)
 kle : z.k ≤ 80
 len : z.ns.length = z.k
 mem : z.x ∈ ps
 sub : ∀ n ∈ z.ns, n ∈ ps.map Dat.tsn
 seq : ∀ j (hj : j < z.ns.length), z.ns[j] = (d.tsn + j) % 4294967296
 cur : z.x.tsn = (d.tsn + z.k) % 4294967296
 st : z.x.st = d.st
 sq : z.x.sq = d.sq
 lo : z.x.lo = d.lo
 fi : z.x.fi = true → z.k = 0
 go : compG ps d (ps.length + 1) d [] [] = compG ps d (ps.length + 1 - z.k) z.x z.tx z.ns
theorem RcP.nodup {ps : List Dat} {d : Dat} {z : RcX} (h : RcP ps d z) (hd0 : 0 ≤ d.tsn) (hk : z.k ≤ 1000) : (z.ns ++ [z.x.tsn]).Nodup := by
 rw [List.Nodup, List.pairwise_iff_getElem]
 have hg : ∀ (j : Nat) (hj : j < (z.ns ++ [z.x.tsn]).length), (z.ns ++ [z.x.tsn])[j] = (d.tsn + j) % 4294967296 := by
  intro j hj
  by_cases hl : j < z.ns.length
  ·rw [List.getElem_append_left hl]; exact h.seq j hl
  ·have : j = z.k := by have := h.len; simp at hj; omega
   subst this
   rw [List.getElem_append_right (by omega)]
   simpa using h.cur
 intro i j hi hj hij he
 have h1 := hg i hi
 have h2 := hg j hj
 have hl := h.len
 have e : (d.tsn + i) % 4294967296 = (d.tsn + j) % 4294967296 := by rw [← h1, ← h2]; exact he
 simp at hi hj
 omega
theorem RcP.le {ps : List Dat} {d : Dat} {z : RcX} (h : RcP ps d z) (hd0 : 0 ≤ d.tsn) (hk : z.k ≤ 1000) : z.k + 1 ≤ ps.length := by
 have := nodup_sub (m := ps.map Dat.tsn) (h.nodup hd0 hk) (fun n hn => by
  rcases List.mem_append.1 hn with hn | hn
  ·exact h.sub n hn
  ·simp at hn; subst hn; exact List.mem_map_of_mem h.mem)
 simp [h.len] at this; exact this
theorem RcP.pass {ps : List Dat} {d : Dat} {z : RcX} (h : RcP ps d z) (hd0 : 0 ≤ d.tsn) (hk : z.k ≤ 1000) : (z.x.st != d.st || z.x.sq != d.sq || z.x.lo != d.lo || (z.x.fi && !z.ns.isEmpty) || z.ns.contains z.x.tsn) = false := by
 have hnd := h.nodup hd0 hk
 rw [List.nodup_append] at hnd
 have h1 : z.ns.contains z.x.tsn = false := by
  rw [← Bool.not_eq_true, List.contains_iff_mem]
  intro hm
  exact hnd.2.2 _ hm _ (by simp) rfl
 have h2 : (z.x.fi && !z.ns.isEmpty) = false := by
  cases hf : z.x.fi with
  | false => rfl
  | true =>
   have := h.fi hf
   have hl := h.len
   have : z.ns = [] := List.eq_nil_of_length_eq_zero (by omega)
   rw [this]; rfl
 rw [h1, h2, h.st, h.sq, h.lo]; simp
theorem RcP.step {ps : List Dat} {d : Dat} {z : RcX} (h : RcP ps d z) (hd0 : 0 ≤ d.tsn) (hk : z.k + 1 ≤ ps.length) (hlen : ps.length ≤ 80) :
  compG ps d (ps.length + 1) d [] [] = if z.x.la then some (z.tx ++ z.x.pl, z.ns ++ [z.x.tsn]) else match getT ps ((z.x.tsn + 1) % 4294967296) with
   | none => none
   | some d' => compG ps d (ps.length + 1 - (z.k + 1)) d' (z.tx ++ z.x.pl) (z.ns ++ [z.x.tsn]) := by
 rw [h.go]
 obtain ⟨m, hm⟩ : ∃ m, ps.length + 1 - z.k = m + 1 := ⟨ps.length - z.k, by omega⟩
 rw [hm, compG, if_neg (by rw [h.pass hd0 (by omega)]; simp), show ps.length + 1 - (z.k + 1) = m by omega]
 rfl
end Go.Proofs.Ytfhhbkehlfipgaa
end
section
namespace Go.Proofs.Ytfhhbkehlfipgaa
open Go.Tx
set_option maxRecDepth 100000
set_option maxHeartbeats 16000000
end Go.Proofs.Ytfhhbkehlfipgaa
end
section
namespace Go.Proofs.Ytfhhbkehlfipgaa
open Go.Tx
set_option maxRecDepth 100000
set_option maxHeartbeats 16000000
end Go.Proofs.Ytfhhbkehlfipgaa
end
section
namespace Go.Proofs.Ytfhhbkehlfipgaa
open Go.Tx
set_option maxRecDepth 100000
set_option maxHeartbeats 16000000
def kE (k : Int × Int) : List PV := [.int .i64 k.1, .int .i64 k.2]
def okSk (sk : List (Int × Int)) (i : Nat) : Bool := (serB 16 (sk.getD i (0, 0)).1 && serB 16 (sk.getD i (0, 0)).2) && (i == 0 || decide ((sk.getD (i - 1) (0, 0)).1 < (sk.getD i (0, 0)).1))
def fwdV (cum : Int) (sk : List (Int × Int)) : Bool := (List.range sk.length).all (okSk sk) && (serB 32 cum && decide (sk.length ≤ 30))
def fwdP (cum : Int) (sk : List (Int × Int)) : PV := .agg [.int .i64 cum, .fs 2 (sk.map kE)]
theorem rowK {sk : List (Int × Int)} {i : Nat} (h : i < sk.length) : (sk.map kE).getD i [] = kE (sk.getD i (0, 0)) := by simp [h, List.getD_eq_getElem?_getD]
theorem forwardValid_ok {F : SF} {L nx : Nat} (cum : Int) (sk : List (Int × Int)) (hlen : sk.length ≤ 1000000) : Con Try.prog 126 [fwdP cum sk] F L nx nx (.bool (fwdV cum sk)) [] [] := by
 refine bdy Try.f126 ?_
 intro F3 hF1 hF2
 simp only [Try.f126, cx, fwdP, Nat.add_zero, go_sem, meths]
 refine loopK.intro _ _ (I := fun i : Nat => ⟨[none, some (.ptr ⟨L + 1, 0⟩ 0 0), none, none, none, none, none, some (.fs 2 (sk.map kE)), some (.int .i64 sk.length), some (.int .i64 i), none, none, none, none, none, none, none, none, none, none, none, none, none, none, none, none, none, none, none, none, none, none, none, none, none, none, none, none, none, none, none, none, none, none, none, none, none, none, none, none, none],
  [(⟨L + 1, 0⟩, .rows 164 2 true true [[.int .i64 cum, .fs 2 (sk.map kE)]])], 10000 * (i + 1)⟩) (pre := fun i => i ≤ sk.length ∧ ∀ j, j < i → okSk sk j = true) (μ := fun i => sk.length - i) 0 ⟨by omega, by intro j h; omega⟩ ?_ ?_
 ·refine Sub.of (hfz hF2) (by simp only [go_sem, subT, and_self, List.length_map, Int.natCast_zero]) ?_ (by simp [subK, keys]) (by simp)
  simp [subH, Tx.look]
 ·rintro i ⟨hi, hp⟩
  have no : i < sk.length → okSk sk i = false → fwdV cum sk = false := by
   intro hl h
   unfold fwdV
   rw [Bool.and_eq_false_iff]
   left
   rw [List.all_eq_false]
   exact ⟨i, by simpa using hl, by simp [h]⟩
  have yes : okSk sk i = true → ∀ j, j < i + 1 → okSk sk j = true := by
   intro h j hj
   by_cases he : j = i
   ·subst he; exact h
   ·exact hp j (by omega)
  by_cases hlt : i < sk.length
  ·have f1 : decide ((i : Int) < (sk.length : Int)) = true := dT (by omega)
   have r0 := rowK hlt
   obtain ⟨k, hk⟩ : ∃ k, k = sk.getD i (0, 0) := ⟨_, rfl⟩
   rw [← hk] at r0
   simp only [f1, r0, kE, nS2, Nat.add_assoc, List.length_map, Nat.add_zero, go_sem]
   repeat refine sd1 ?_
   refine CallVC.pure (args2 := [_, .fs 1 ([k.1, k.2].map eI)]) ⟨rfl, by simp [Wk, eI], trivial⟩ (small_ok 16 [k.1, k.2] (by omega) (by omega) (by simp)) rfl ?_
   have h12 : [k.1, k.2].all (serB 16) = (serB 16 k.1 && serB 16 k.2) := by simp
   cases h1 : serB 16 k.1 && serB 16 k.2 with
   | false =>
    rw [no hlt (by unfold okSk; rw [← hk, h1]; rfl), h12, h1]
    simp only [wkNL, wkN, Nat.add_assoc, go_sem]
    refine ⟨okDyn_num (fun x => x.i % 10000) (by simp only [numF, List.map, Nat.mul_add_mod, Nat.reduceMod]; kernel_rfl), ?_⟩
    exact .bool (.inr rfl) rfl rfl (by simp [UpdAll])
   | true =>
    rw [h12, h1]
    by_cases h3 : i = 0
    ·have f3 : decide ((0 : Int) < (i : Int)) = false := dF (by omega)
     simp only [f3, wkNL, wkN, Nat.add_assoc, go_sem]
     refine ⟨okDyn_num (fun x => x.i % 10000) (by simp only [numF, List.map, Nat.mul_add_mod, Nat.reduceMod]; kernel_rfl), ⟨by omega, by omega⟩, i + 1, ⟨by omega, yes (by unfold okSk; rw [← hk, h1, h3]; rfl)⟩, by omega, ?_⟩
     refine Sub.o hF2 ?_
     simp [subH, Tx.look]
    ·have f3 : decide ((0 : Int) < (i : Int)) = true := dT (by omega)
     have e1 : ((i : Int) - 1).toNat = i - 1 := by omega
     have r1 := rowK (sk := sk) (i := i - 1) (by omega)
     obtain ⟨k', hk'⟩ : ∃ k', k' = sk.getD (i - 1) (0, 0) := ⟨_, rfl⟩
     rw [← hk'] at r1
     have hi0 : (i == 0) = false := by simp [h3]
     cases h4 : decide (k.1 ≤ k'.1) with
     | true =>
      have h5 : decide (k'.1 < k.1) = false := dF (by simp at h4; omega)
      rw [no hlt (by unfold okSk; rw [← hk, ← hk', h1, hi0, h5]; rfl)]
      simp only [f3, e1, r1, h4, kE, wkNL, wkN, nS2', Nat.add_assoc, List.length_map, Nat.add_zero, go_sem]
      repeat refine sd1 ?_
      exact .bool (.inr rfl) rfl rfl (by simp [UpdAll])
     | false =>
      have h5 : decide (k'.1 < k.1) = true := dT (by simp at h4; omega)
      simp only [f3, e1, r1, h4, kE, wkNL, wkN, nS2', Nat.add_assoc, List.length_map, Nat.add_zero, go_sem]
      repeat refine sd1 ?_
      refine ⟨i + 1, ⟨by omega, yes (by unfold okSk; rw [← hk, ← hk', h1, hi0, h5]; rfl)⟩, by omega, ?_⟩
      refine Sub.o hF2 ?_
      simp [subH, Tx.look]
  ·have f1 : decide ((i : Int) < (sk.length : Int)) = false := dF (by omega)
   have hall : (List.range sk.length).all (okSk sk) = true := by
    rw [List.all_eq_true]
    intro j hj
    exact hp j (by have := List.mem_range.1 hj; omega)
   simp only [f1, Nat.add_assoc, Nat.add_zero, go_sem]
   refine CallVC.pure (args2 := [_, .fs 1 ([cum].map eI)]) ⟨rfl, by simp [Wk, eI], trivial⟩ (small_ok 32 [cum] (by omega) (by omega) (by simp)) rfl ?_
   have h6 : [cum].all (serB 32) = serB 32 cum := by simp
   rw [h6]
   unfold fwdV
   rw [hall]
   cases h7 : serB 32 cum with
   | false =>
    simp only [wkNL, wkN, Nat.add_assoc, go_sem]
    exact .bool (.inr rfl) rfl rfl (by simp [UpdAll])
   | true =>
    simp only [wkNL, wkN, Nat.add_assoc, List.length_map, Nat.add_zero, go_sem]
    exact .bool (.inr rfl) rfl (by simp; omega) (by simp [UpdAll])
def kN (k : Nat × Nat) : Int × Int := (k.1, k.2)
def fwdT (cum : Nat) (sk : List (Nat × Nat)) : List UInt8 := putB 4 cum ++ sk.flatMap fun k => putB 2 k.1 ++ putB 2 k.2
theorem skT_len : ∀ sk : List (Nat × Nat), (sk.flatMap fun k => putB 2 k.1 ++ putB 2 k.2).length = 4 * sk.length
 | [] => rfl
 | k :: l => by
  simp only [List.flatMap_cons, List.length_append, putB_len, List.length_cons, skT_len l]; omega
theorem forwardWrite_ok {F : SF} {L nx : Nat} (n : Nm) (hn : n.l < L ∨ (n.l = L ∧ n.i < nx)) (cum : Nat) (sk : List (Nat × Nat)) (h1 : cum < 256 ^ 4) (h2 : ∀ k ∈ sk, k.1 < 256 ^ 2 ∧ k.2 < 256 ^ 2) (hlen : sk.length ≤ 30) (hb : bldF F n 181 none []) :
  Con Try.prog 127 [fwdP cum (sk.map kN), .ptr n 0 0] F L nx (nx + 1) (.tup [.int .i64 192, .int .i64 0]) (bldU n 181 ⟨L, nx⟩ (fwdT cum sk)) [n] := by
 refine bdyN Try.f127 (hrd := (by simp; omega)) ?_
 intro F3 hF1 hF2
 have hFb : bldF F3 n 181 none [] := ⟨rfl, hb.2.imp fun p h => (hF1 n (by simp)).trans h⟩
 have n1 : ∀ k, (n = (⟨L + 1, k⟩ : Nm)) = False := nm_out (by omega)
 have n2 : ∀ k, ((⟨L + 1, k⟩ : Nm) = n) = False := nm_out' (by omega)
 simp only [Try.f127, cx, fwdP, Nat.add_zero, go_sem, meths]
 have l1 : (putB 4 cum).length = 4 := putB_len _ _
 have z1 : putB 4 cum ≠ [] := by intro h; rw [h] at l1; simp at l1
 refine bput_call n (.inl (show n.l < L + 1 by omega)) none trivial [] 4 4 rfl (by omega) (by omega) [cum] (by simpa using h1) (by simp) (by simp) ⟨L + 1, 224⟩ 1 rfl (by simp [eN]) (by intro h; rw [n1] at h; exact h) (by simp) ⟨rfl, hFb.2.imp fun p h => by simp [h, n1]⟩ (putB 4 cum) (by simp) ?_
 simp only [bldD, bldU, n1, n2, List.length_map, Nat.add_zero, go_sem]
 refine loopK.intro _ _ (I := fun z : Nat × Nat => ⟨[none, some (.ptr n 0 0), none, none, some (.int .i64 0), some (.int .i64 0), none, none, none, none, none, none, none, none, none, none, some (.fs 2 ((sk.map kN).map kE)), some (.int .i64 sk.length), some (.int .i64 z.1), none, none, none, none, none, none, none, none, none, none, none],
  bldU n 181 ⟨L + 1, z.2⟩ (fwdT cum (sk.take z.1)), 10000 * (z.1 + 1)⟩) (pre := fun z => z.1 ≤ sk.length ∧ z.2 < 10000 * (z.1 + 1)) (μ := fun z => sk.length - z.1) (0, 256) ⟨by simp, by simp⟩ ?_ ?_
 ·refine Sub.of (hfz hF2) (by simp only [go_sem, subT, and_self, Int.natCast_zero]) ?_ (by simp [subK, keys, bldU]) (by simp)
  simp [subH, Tx.look, bldU, fwdT, n1, n2]
 ·rintro ⟨i, q⟩ ⟨hi, hq⟩
  simp only at hi hq ⊢
  obtain ⟨t, ht⟩ : ∃ t, t = fwdT cum (sk.take i) := ⟨_, rfl⟩
  rw [← ht]
  have htl : t.length = 4 + 4 * i := by rw [ht]; unfold fwdT; rw [List.length_append, skT_len, putB_len, List.length_take]; omega
  have htz : t ≠ [] := by intro h; rw [h] at htl; simp at htl; omega
  have q1 : ∀ c, (10000 * (i + 1) + c = q) = False := fun c => by apply eq_false; omega
  have q2 : ∀ c, (q = 10000 * (i + 1) + c) = False := fun c => by apply eq_false; omega
  by_cases hlt : i < sk.length
  ·have f1 : decide ((i : Int) < (sk.length : Int)) = true := dT (by omega)
   have r0 := rowK (sk := sk.map kN) (i := i) (by simpa using hlt)
   obtain ⟨k, hk⟩ : ∃ k, k = sk[i] := ⟨_, rfl⟩
   have e0 : (sk.map kN).getD i (0, 0) = kN k := by rw [hk]; simp [hlt, List.getD_eq_getElem?_getD]
   rw [e0] at r0
   have hkb := h2 k (by rw [hk]; exact List.getElem_mem hlt)
   simp only [f1, r0, kE, kN, bldU, n2, q1, nS2, Nat.add_assoc, List.length_map, Nat.add_zero, go_sem]
   repeat refine sd1 ?_
   have ht2 : t ++ (putB 2 k.1 ++ putB 2 k.2) = fwdT cum (sk.take (i + 1)) := by
    rw [ht]; unfold fwdT
    rw [List.take_succ_eq_append_getElem hlt, List.flatMap_append, ← hk, ← List.append_assoc]; simp
   refine bput_call n (.inl (show n.l < L + 1 by omega)) (some ⟨L + 1, q⟩) (.inr ⟨rfl, by simp only []; omega⟩) t 2 2 rfl (by omega) (by omega) [k.1, k.2] (by simp; exact hkb) (by simp) (by simp; omega) ⟨L + 1, 10000 * (i + 1) + 320⟩ 2 rfl (by simp [eN, n2, q1]) (by intro h; rw [n1] at h; exact h) (by simp [q2]) ⟨htz, by simp [n1], by simp [n2], by simp [n2]⟩ (fwdT cum (sk.take (i + 1))) (by rw [← ht2]; simp) ?_
   simp only [bldD, bldU, n1, n2, q1, q2, nS2, Nat.add_assoc, go_sem]
   repeat refine sd1 ?_
   refine ⟨(i + 1, 10000 * (i + 1) + 352), ⟨by simp only []; omega, by simp only []; omega⟩, by simp only []; omega, ?_⟩
   refine Sub.o hF2 ?_
   simp [subH, Tx.look, n2, q1]
  ·have f1 : decide ((i : Int) < (sk.length : Int)) = false := dF (by omega)
   have e : i = sk.length := by omega
   subst e
   rw [List.take_of_length_le (Nat.le_refl _)] at ht
   rw [← ht]
   simp only [f1, bldU, Nat.add_assoc, go_sem]
   refine .now (PostN.val [q] (.inr rfl) (by simp) (p := True) (v0 := .tup [.int .i64 192, .int .i64 0]) ?_ trivial ?_ ?_ ⟨by omega, ?_, Nat.le_refl _, ?_, trivial⟩ ?_)
   ·simp only [resVal, resVals, resVal1, one, go_sem]
   ·simp [nmA, nmAL]
   ·simp [Tx.rn, Tx.rnL]
   ·rw [kp_out (hn.imp id fun h => .inl h.2)]
    exact .ren (by simp [Tx.look]; rfl) (by simp [rowsNm, nmA, nmAL, Dn]; omega) (by simp [Tx.rn, Tx.rnL, sg_out (show n.l ≤ L by omega)]; simp [sg])
   ·rw [kp_at0 (by simp)]
    exact .pure (by simp [Tx.look, n2])
   ·simp [UpdAll, keys]
theorem meths164v : Meths.get meths 164 "tannoy/chunk.valid" = some 126 := by simp [Meths.get, meths]
theorem meths164w : Meths.get meths 164 "tannoy/chunk.write" = some 127 := by simp [Meths.get, meths]
theorem fwdV_all {cum : Int} {sk : List (Int × Int)} (h : fwdV cum sk = true) : (∀ k ∈ sk, serB 16 k.1 = true ∧ serB 16 k.2 = true) ∧ serB 32 cum = true ∧ sk.length ≤ 30 := by
 unfold fwdV at h
 simp only [Bool.and_eq_true, decide_eq_true_eq] at h
 refine ⟨fun k hk => ?_, h.2.1, h.2.2⟩
 obtain ⟨i, hi, rfl⟩ := List.getElem_of_mem hk
 have := List.all_eq_true.1 h.1 i (by simpa using hi)
 unfold okSk at this
 simp only [Bool.and_eq_true] at this
 simpa [List.getD_eq_getElem?_getD, hi] using this.1
theorem putForward_ok {F : SF} {L nx : Nat} (cum : Int) (sk : List (Int × Int)) (hlen : sk.length ≤ 1000000) : Con Try.prog 55 [fwdP cum sk] F L nx nx
   (if fwdV cum sk then .tup [.agg [.int .i64 192, .int .i64 0, .str (fwdT cum.toNat (sk.map fun k => (k.1.toNat, k.2.toNat)))], .int .i64 0] else .tup [.agg [.int .i64 0, .int .i64 0, .str []], .int .i64 320]) [] [] := by
 have hva : ∀ (F : SF) (L nx : Nat), Con Try.prog 126 [fwdP cum sk] F L nx nx (.bool (fwdV cum sk)) [] [] := fun F L nx => forwardValid_ok cum sk hlen
 cases hV : fwdV cum sk with
 | false =>
  rw [hV] at hva
  simp only [if_false, Bool.false_eq_true]
  refine bdy Try.f55 ?_
  intro F3 hF1 hF2
  simp only [Try.f55, cx, fwdP, go_sem, meths]
  refine CallVC.same (putBad_ok 164 _ 126 meths164v hva) ?_
  simp only [go_sem]
  exact PostF.same (p := True) (.inr rfl) (by simp only [resVal, resVals, resVal1, one, go_sem]) trivial (by simp [Tx.nf, nfl]) (by simp [UpdAll])
 | true =>
  rw [hV] at hva
  simp only [if_true]
  obtain ⟨b1, b2, b3⟩ := fwdV_all hV
  obtain ⟨e1, c1⟩ := serB_nat b2
  obtain ⟨sn, hsn⟩ : ∃ sn, sn = sk.map fun k => (k.1.toNat, k.2.toNat) := ⟨_, rfl⟩
  have hsk : sn.map kN = sk := by
   rw [hsn, List.map_map]
   conv => rhs; rw [← List.map_id sk]
   apply List.map_congr_left
   intro k hk
   obtain ⟨d1, d2⟩ := b1 k hk
   simp only [Function.comp, kN, id]
   rw [← (serB_nat d1).1, ← (serB_nat d2).1]
  have hsb : ∀ k ∈ sn, k.1 < 256 ^ 2 ∧ k.2 < 256 ^ 2 := by
   intro k hk
   rw [hsn] at hk
   obtain ⟨y, hy, rfl⟩ := List.mem_map.1 hk
   obtain ⟨d1, d2⟩ := b1 y hy
   exact ⟨(serB_nat d1).2, (serB_nat d2).2⟩
  have hsl : sn.length ≤ 30 := by rw [hsn, List.length_map]; exact b3
  rw [← hsn]
  have hw : ∀ (F : SF) (L nx : Nat) (n : Nm), (n.l < L ∨ (n.l = L ∧ n.i < nx)) → bldF F n 181 none [] → Con Try.prog 127 [fwdP cum sk, .ptr n 0 0] F L nx (nx + 1) (.tup [.int .i64 192, .int .i64 0]) (bldU n 181 ⟨L, nx⟩ (fwdT cum.toNat sn)) [n] := by
   intro F L nx n hn hb
   have := forwardWrite_ok (F := F) (L := L) (nx := nx) n hn cum.toNat sn c1 hsb hsl hb
   rw [hsk, ← e1] at this
   exact this
  refine bdy Try.f55 ?_
  intro F3 hF1 hF2
  simp only [Try.f55, cx, fwdP, go_sem, meths]
  refine CallVC.same (putGood_ok 164 _ 126 127 meths164v meths164w hva 192 0 (fwdT cum.toNat sn) ?_ ?_ hw) ?_
  ·intro h
   have := congrArg List.length h
   unfold fwdT at this
   simp [putB_len] at this
  ·unfold fwdT
   rw [List.length_append, skT_len, putB_len]; omega
  simp only [go_sem]
  exact PostF.same (p := True) (.inr rfl) (by simp only [resVal, resVals, resVal1, one, go_sem]) trivial (by simp [Tx.nf, nfl]) (by simp [UpdAll])
end Go.Proofs.Ytfhhbkehlfipgaa
end
