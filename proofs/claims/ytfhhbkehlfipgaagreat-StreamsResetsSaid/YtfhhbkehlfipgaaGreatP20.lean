/- Lemmas for the walk: ZC82, ZC83. -/
import Derived.Test.YtfhhbkehlfipgaaGreatP19
set_option linter.all false
section
namespace Go.Proofs.YtfhhbkehlfipgaaGreat
open Go.Tx
set_option maxRecDepth 100000
set_option maxHeartbeats 16000000
def ansR (r : StX × Rst × Int) : PV := .tup [r.1.v, r.2.1.v, .int .i64 r.2.2]
theorem ansR_err (n : Int) : ansR (StX.z, Rst.z, n) = .tup [.agg [.fs 1 [], .fs 1 [], .fs 8 [], .int .i64 0, .int .i64 0, .fs 1 []], .agg [.int .i64 0, .int .i64 0, .int .i64 0, .int .i64 0, .fs 1 []], .int .i64 n] := rfl
theorem ansR_ok (s : StX) (x : Rst) (n : Int) : ansR (s, x, n) = .tup [.agg [.fs 1 (s.out.map eI), .fs 1 (s.inn.map eI), .fs 8 (s.ps.map Dat.row), .int .i64 s.num, .int .i64 s.seen, .fs 1 (s.asked.map eI)], .agg [.int .i64 x.k, .int .i64 x.n, .int .i64 x.la, .int .i64 x.r, .fs 1 (x.ss.map eI)], .int .i64 n] := rfl
def askR (s : StX) (last : Int) (l : List Int) : StX × Rst × Int :=
 if s.chk = false then (StX.z, Rst.z, 350)
 else if serB 32 last = false then (StX.z, Rst.z, 2)
 else if l.length < 1 then (StX.z, Rst.z, 2)
 else if listedB l s.out.length = false then (StX.z, Rst.z, 2)
 else if 0 < s.asked.length then (StX.z, Rst.z, 8)
 else ({ s with asked := l }, ⟨1, s.num, last, 0, l⟩, 0)
theorem askAll_ok {F : SF} {L nx : Nat} (s : StX) (hs : s.Le 1000) (last : Int) (l : List Int) (hl : l.length ≤ 1000) : Con Tryz.prog 26 [s.v, .int .i64 last, .fs 1 (l.map eI)] F L nx nx (ansR (askR s last l)) [] [] := by
 obtain ⟨out, inn, ps, num, seen, asked⟩ := s
 obtain ⟨ho, hi, hpl, ha2⟩ := hs
 simp only at ho hi hpl ha2
 have f0 : ((0 : Int) != 0) = false := rfl
 cases hc : chkB out inn num seen asked ps with
 | false =>
  have hv : askR ⟨out, inn, ps, num, seen, asked⟩ last l = (StX.z, Rst.z, 350) := by simp only [askR, StX.chk, hc, if_true]
  rw [hv, ansR_err]
  have hb := fun F L nx => begin_bad (F := F) (L := L) (nx := nx) out inn asked num seen ps (by omega) (by omega) (by omega) (by omega) hc
  simp only [strV] at hb
  refine bdy Tryz.f26 ?_
  intro F3 hF1 hF2
  simp only [Tryz.f26, cx, StX.v, strV, go_sem, meths]
  refine CallVC.same (hb _ _ _) ?_
  simp only [show ((350 : Int) != 0) = true from rfl, go_sem]
  repeat refine sd2 ?_
  exact PostF.rs (v0 := .tup [.agg [.nilS, .nilS, .nilS, .int .i64 0, .int .i64 0, .nilS], .agg [.int .i64 0, .int .i64 0, .int .i64 0, .int .i64 0, .nilS], .int .i64 350]) (.inr rfl)
 | true =>
 obtain ⟨hS, hP, hD⟩ := chkB_ok hc (by omega)
 have hbg : ∀ F L nx, Con Tryz.prog 54 [strV out inn num seen asked ps] F L nx (nx + 5) (.tup [.ptr ⟨L, nx⟩ 0 0, .int .i64 0]) (stU L nx out inn asked num seen ps) [] := fun F L nx => begin_ok out inn asked num seen hS ps hP hD
 simp only [strV, stU] at hbg
 cases h1 : serB 32 last with
 | false =>
  have hv : askR ⟨out, inn, ps, num, seen, asked⟩ last l = (StX.z, Rst.z, 2) := by simp only [askR, StX.chk, hc, h1, if_true, if_false, Bool.true_eq_false]
  rw [hv, ansR_err]
  refine bdy Tryz.f26 ?_
  intro F3 hF1 hF2
  simp only [Tryz.f26, cx, StX.v, strV, go_sem, meths]
  refine CallVC.same (hbg _ _ _) ?_
  simp only [f0, go_sem]
  repeat refine sd2 ?_
  refine CallVC.pure (args2 := [_, .fs 1 ([last].map eI)]) ⟨rfl, by simp [Wk, eI], trivial⟩ (serial_ok 32 [last] (by omega) (by omega) (by simp)) rfl ?_
  rw [show [last].all (serB 32) = serB 32 last by simp]
  rw [h1]
  simp only [go_sem]
  repeat refine sd2 ?_
  exact PostF.rs (v0 := .tup [.agg [.nilS, .nilS, .nilS, .int .i64 0, .int .i64 0, .nilS], .agg [.int .i64 0, .int .i64 0, .int .i64 0, .int .i64 0, .nilS], .int .i64 2]) (.inr rfl)
 | true =>
 by_cases h2 : l.length < 1
 ·have hv : askR ⟨out, inn, ps, num, seen, asked⟩ last l = (StX.z, Rst.z, 2) := by simp only [askR, StX.chk, hc, h1, h2, if_true, if_false, Bool.true_eq_false]
  have f2 : (decide ((l.length : Int) < 1)) = true := dT (by omega)
  rw [hv, ansR_err]
  refine bdy Tryz.f26 ?_
  intro F3 hF1 hF2
  simp only [Tryz.f26, cx, StX.v, strV, go_sem, meths]
  refine CallVC.same (hbg _ _ _) ?_
  simp only [f0, go_sem]
  repeat refine sd2 ?_
  refine CallVC.pure (args2 := [_, .fs 1 ([last].map eI)]) ⟨rfl, by simp [Wk, eI], trivial⟩ (serial_ok 32 [last] (by omega) (by omega) (by simp)) rfl ?_
  rw [show [last].all (serB 32) = serB 32 last by simp]
  rw [h1]
  simp only [f2, List.length_map, go_sem]
  repeat refine sd2 ?_
  exact PostF.rs (v0 := .tup [.agg [.nilS, .nilS, .nilS, .int .i64 0, .int .i64 0, .nilS], .agg [.int .i64 0, .int .i64 0, .int .i64 0, .int .i64 0, .nilS], .int .i64 2]) (.inr rfl)
 have f2 : (decide ((l.length : Int) < 1)) = false := dF (by omega)
 cases h3 : listedB l out.length with
 | false =>
  have hv : askR ⟨out, inn, ps, num, seen, asked⟩ last l = (StX.z, Rst.z, 2) := by simp only [askR, StX.chk, hc, h1, h2, h3, if_true, if_false, Bool.true_eq_false]
  rw [hv, ansR_err]
  refine bdy Tryz.f26 ?_
  intro F3 hF1 hF2
  simp only [Tryz.f26, cx, StX.v, strV, go_sem, meths]
  refine CallVC.same (hbg _ _ _) ?_
  simp only [f0, go_sem]
  repeat refine sd2 ?_
  refine CallVC.pure (args2 := [_, .fs 1 ([last].map eI)]) ⟨rfl, by simp [Wk, eI], trivial⟩ (serial_ok 32 [last] (by omega) (by omega) (by simp)) rfl ?_
  rw [show [last].all (serB 32) = serB 32 last by simp]
  rw [h1]
  simp only [f2, List.length_map, Nat.add_zero, go_sem]
  repeat refine sd2 ?_
  refine CallVC.same (listed_ok l out.length (by omega)) ?_
  rw [h3]
  simp only [go_sem]
  repeat refine sd2 ?_
  exact PostF.rs (v0 := .tup [.agg [.nilS, .nilS, .nilS, .int .i64 0, .int .i64 0, .nilS], .agg [.int .i64 0, .int .i64 0, .int .i64 0, .int .i64 0, .nilS], .int .i64 2]) (.inr rfl)
 | true =>
 by_cases h4 : 0 < asked.length
 ·have hv : askR ⟨out, inn, ps, num, seen, asked⟩ last l = (StX.z, Rst.z, 8) := by simp only [askR, StX.chk, hc, h1, h2, h3, h4, if_true, if_false, Bool.true_eq_false]
  have f4 : decide ((0 : Int) < (asked.length : Int)) = true := dT (by omega)
  rw [hv, ansR_err]
  refine bdy Tryz.f26 ?_
  intro F3 hF1 hF2
  simp only [Tryz.f26, cx, StX.v, strV, go_sem, meths]
  refine CallVC.same (hbg _ _ _) ?_
  simp only [f0, go_sem]
  repeat refine sd2 ?_
  refine CallVC.pure (args2 := [_, .fs 1 ([last].map eI)]) ⟨rfl, by simp [Wk, eI], trivial⟩ (serial_ok 32 [last] (by omega) (by omega) (by simp)) rfl ?_
  rw [show [last].all (serB 32) = serB 32 last by simp]
  rw [h1]
  simp only [f2, List.length_map, Nat.add_zero, go_sem]
  repeat refine sd2 ?_
  refine CallVC.same (listed_ok l out.length (by omega)) ?_
  rw [h3]
  simp only [f4, List.length_map, go_sem]
  repeat refine sd2 ?_
  exact PostF.rs (v0 := .tup [.agg [.nilS, .nilS, .nilS, .int .i64 0, .int .i64 0, .nilS], .agg [.int .i64 0, .int .i64 0, .int .i64 0, .int .i64 0, .nilS], .int .i64 8]) (.inr rfl)
 have f4 : decide ((0 : Int) < (asked.length : Int)) = false := dF (by omega)
 have hv : askR ⟨out, inn, ps, num, seen, asked⟩ last l = (⟨out, inn, ps, num, seen, l⟩, ⟨1, num, last, 0, l⟩, 0) := by simp only [askR, StX.chk, hc, h1, h2, h3, h4, if_false, Bool.true_eq_false]
 rw [hv, ansR_ok]
 simp only
 refine bdy Tryz.f26 ?_
 intro F3 hF1 hF2
 simp only [Tryz.f26, cx, StX.v, strV, go_sem, meths]
 refine CallVC.same (hbg _ _ _) ?_
 simp only [f0, go_sem]
 repeat refine sd2 ?_
 refine CallVC.pure (args2 := [_, .fs 1 ([last].map eI)]) ⟨rfl, by simp [Wk, eI], trivial⟩ (serial_ok 32 [last] (by omega) (by omega) (by simp)) rfl ?_
 rw [show [last].all (serB 32) = serB 32 last by simp]
 rw [h1]
 simp only [f2, List.length_map, Nat.add_zero, go_sem]
 repeat refine sd2 ?_
 refine CallVC.same (listed_ok l out.length (by omega)) ?_
 rw [h3]
 simp only [f4, List.length_map, go_sem]
 repeat refine sd2 ?_
 refine CallVC.same (cloneI_ok l (by omega)) ?_
 simp only [Nat.add_zero, go_sem]
 repeat refine sd2 ?_
 refine CallVC.same (cloneI_ok l (by omega)) ?_
 simp only [go_sem]
 repeat refine sd2 ?_
 refine ⟨okDyn_num (fun x => x.i) (by kernel_rfl), ?_⟩
 repeat refine sd2 ?_
 exact PostF.rs (v0 := .tup [.agg [.sl ⟨L + 1, 161⟩ 0 out.length, .sl ⟨L + 1, 162⟩ 0 inn.length, .sl ⟨L + 1, 163⟩ 0 ps.length, .int .i64 num, .int .i64 seen, .sl ⟨L + 1, 1157⟩ 0 l.length], .agg [.int .i64 1, .int .i64 num, .int .i64 last, .int .i64 0, .sl ⟨L + 1, 1542⟩ 0 l.length], .int .i64 0]) (.inr rfl)
theorem refAskAll_ok {F : SF} {L nx : Nat} (s : StX) (hs : s.Le 1000) (last : Int) (l : List Int) (hl : l.length ≤ 1000) : Con Tryz.prog 27 [s.v, .int .i64 last, .fs 1 (l.map eI)] F L nx nx (ansR (askR s last l)) [] [] := by
 obtain ⟨out, inn, ps, num, seen, asked⟩ := s
 obtain ⟨ho, hi, hpl, ha2⟩ := hs
 simp only at ho hi hpl ha2
 have f0 : ((0 : Int) != 0) = false := rfl
 cases hc : chkB out inn num seen asked ps with
 | false =>
  have hv : askR ⟨out, inn, ps, num, seen, asked⟩ last l = (StX.z, Rst.z, 350) := by simp only [askR, StX.chk, hc, if_true]
  rw [hv, ansR_err]
  have hri := fun F L nx => right_ok (F := F) (L := L) (nx := nx) out inn asked num seen ps (by omega) (by omega) (by omega) (by omega)
  rw [hc] at hri
  simp only [strV] at hri
  refine bdy Tryz.f27 ?_
  intro F3 hF1 hF2
  simp only [Tryz.f27, cx, StX.v, strV, go_sem, meths]
  refine CallVC.same (hri _ _ _) ?_
  simp only [go_sem]
  repeat refine sd2 ?_
  exact PostF.rs (v0 := .tup [.agg [.nilS, .nilS, .nilS, .int .i64 0, .int .i64 0, .nilS], .agg [.int .i64 0, .int .i64 0, .int .i64 0, .int .i64 0, .nilS], .int .i64 350]) (.inr rfl)
 | true =>
 obtain ⟨hS, hP, hD⟩ := chkB_ok hc (by omega)
 have hri := fun F L nx => right_ok (F := F) (L := L) (nx := nx) out inn asked num seen ps (by omega) (by omega) (by omega) (by omega)
 rw [hc] at hri
 simp only [strV] at hri
 have hco := fun F L nx => copied_ok (F := F) (L := L) (nx := nx) out inn asked num seen ps (by omega) (by omega) (by omega) (by omega)
 simp only [strV] at hco
 cases h1 : serB 32 last with
 | false =>
  have hv : askR ⟨out, inn, ps, num, seen, asked⟩ last l = (StX.z, Rst.z, 2) := by simp only [askR, StX.chk, hc, h1, if_true, if_false, Bool.true_eq_false]
  rw [hv, ansR_err]
  refine bdy Tryz.f27 ?_
  intro F3 hF1 hF2
  simp only [Tryz.f27, cx, StX.v, strV, go_sem, meths]
  refine CallVC.same (hri _ _ _) ?_
  simp only [go_sem]
  repeat refine sd2 ?_
  refine CallVC.same (rWide_ok last) ?_
  rw [h1]
  simp only [go_sem]
  repeat refine sd2 ?_
  exact PostF.rs (v0 := .tup [.agg [.nilS, .nilS, .nilS, .int .i64 0, .int .i64 0, .nilS], .agg [.int .i64 0, .int .i64 0, .int .i64 0, .int .i64 0, .nilS], .int .i64 2]) (.inr rfl)
 | true =>
 by_cases h2 : l.length < 1
 ·have hv : askR ⟨out, inn, ps, num, seen, asked⟩ last l = (StX.z, Rst.z, 2) := by simp only [askR, StX.chk, hc, h1, h2, if_true, if_false, Bool.true_eq_false]
  have f2 : ((l.length : Int) == 0) = true := eqT (by omega)
  rw [hv, ansR_err]
  refine bdy Tryz.f27 ?_
  intro F3 hF1 hF2
  simp only [Tryz.f27, cx, StX.v, strV, go_sem, meths]
  refine CallVC.same (hri _ _ _) ?_
  simp only [go_sem]
  repeat refine sd2 ?_
  refine CallVC.same (rWide_ok last) ?_
  rw [h1]
  simp only [f2, List.length_map, go_sem]
  repeat refine sd2 ?_
  exact PostF.rs (v0 := .tup [.agg [.nilS, .nilS, .nilS, .int .i64 0, .int .i64 0, .nilS], .agg [.int .i64 0, .int .i64 0, .int .i64 0, .int .i64 0, .nilS], .int .i64 2]) (.inr rfl)
 have f2 : ((l.length : Int) == 0) = false := eqF (by omega)
 cases h3 : listedB l out.length with
 | false =>
  have hv : askR ⟨out, inn, ps, num, seen, asked⟩ last l = (StX.z, Rst.z, 2) := by simp only [askR, StX.chk, hc, h1, h2, h3, if_true, if_false, Bool.true_eq_false]
  rw [hv, ansR_err]
  refine bdy Tryz.f27 ?_
  intro F3 hF1 hF2
  simp only [Tryz.f27, cx, StX.v, strV, go_sem, meths]
  refine CallVC.same (hri _ _ _) ?_
  simp only [go_sem]
  repeat refine sd2 ?_
  refine CallVC.same (rWide_ok last) ?_
  rw [h1]
  simp only [f2, List.length_map, Nat.add_zero, go_sem]
  repeat refine sd2 ?_
  refine CallVC.same (rListed_ok l out.length (by omega)) ?_
  rw [h3]
  simp only [go_sem]
  repeat refine sd2 ?_
  exact PostF.rs (v0 := .tup [.agg [.nilS, .nilS, .nilS, .int .i64 0, .int .i64 0, .nilS], .agg [.int .i64 0, .int .i64 0, .int .i64 0, .int .i64 0, .nilS], .int .i64 2]) (.inr rfl)
 | true =>
 by_cases h4 : 0 < asked.length
 ·have hv : askR ⟨out, inn, ps, num, seen, asked⟩ last l = (StX.z, Rst.z, 8) := by simp only [askR, StX.chk, hc, h1, h2, h3, h4, if_true, if_false, Bool.true_eq_false]
  have f4 : decide ((0 : Int) < (asked.length : Int)) = true := dT (by omega)
  rw [hv, ansR_err]
  refine bdy Tryz.f27 ?_
  intro F3 hF1 hF2
  simp only [Tryz.f27, cx, StX.v, strV, go_sem, meths]
  refine CallVC.same (hri _ _ _) ?_
  simp only [go_sem]
  repeat refine sd2 ?_
  refine CallVC.same (rWide_ok last) ?_
  rw [h1]
  simp only [f2, List.length_map, Nat.add_zero, go_sem]
  repeat refine sd2 ?_
  refine CallVC.same (rListed_ok l out.length (by omega)) ?_
  rw [h3]
  simp only [f4, List.length_map, go_sem]
  repeat refine sd2 ?_
  exact PostF.rs (v0 := .tup [.agg [.nilS, .nilS, .nilS, .int .i64 0, .int .i64 0, .nilS], .agg [.int .i64 0, .int .i64 0, .int .i64 0, .int .i64 0, .nilS], .int .i64 8]) (.inr rfl)
 have f4 : decide ((0 : Int) < (asked.length : Int)) = false := dF (by omega)
 have hv : askR ⟨out, inn, ps, num, seen, asked⟩ last l = (⟨out, inn, ps, num, seen, l⟩, ⟨1, num, last, 0, l⟩, 0) := by simp only [askR, StX.chk, hc, h1, h2, h3, h4, if_false, Bool.true_eq_false]
 rw [hv, ansR_ok]
 simp only
 refine bdy Tryz.f27 ?_
 intro F3 hF1 hF2
 simp only [Tryz.f27, cx, StX.v, strV, go_sem, meths]
 refine CallVC.same (hri _ _ _) ?_
 simp only [go_sem]
 repeat refine sd2 ?_
 refine CallVC.same (rWide_ok last) ?_
 rw [h1]
 simp only [f2, List.length_map, Nat.add_zero, go_sem]
 repeat refine sd2 ?_
 refine CallVC.same (rListed_ok l out.length (by omega)) ?_
 rw [h3]
 simp only [f4, List.length_map, go_sem]
 repeat refine sd2 ?_
 refine CallVC.same (hco _ _ _) ?_
 simp only [List.length_map, go_sem]
 repeat refine sd2 ?_
 refine ⟨okDyn_num (fun x => x.i) (by kernel_rfl), ?_⟩
 repeat refine sd2 ?_
 have ha0 : asked = [] := List.length_eq_zero_iff.1 (by omega)
 exact PostF.rs (v0 := .tup [.agg [.sl ⟨L + 1, 896⟩ 0 out.length, .sl ⟨L + 1, 897⟩ 0 inn.length, .sl ⟨L + 1, 898⟩ 0 ps.length, .int .i64 num, .int .i64 seen, .sl ⟨L + 1, 1028⟩ 0 (asked.length + l.length)], .agg [.int .i64 1, .int .i64 num, .int .i64 last, .int .i64 0, .sl ⟨L + 1, 1028⟩ 0 (asked.length + l.length)], .int .i64 0] ) (.inr rfl) (hw := by simp [Wk, WkL, Tx.look, List.take_of_length_le, ha0])
def ansA (r : StX × Int) : PV := .tup [r.1.v, .int .i64 r.2]
theorem ansA_err (n : Int) : ansA (StX.z, n) = .tup [.agg [.fs 1 [], .fs 1 [], .fs 8 [], .int .i64 0, .int .i64 0, .fs 1 []], .int .i64 n] := rfl
theorem ansA_ok (s : StX) (n : Int) : ansA (s, n) = .tup [.agg [.fs 1 (s.out.map eI), .fs 1 (s.inn.map eI), .fs 8 (s.ps.map Dat.row), .int .i64 s.num, .int .i64 s.seen, .fs 1 (s.asked.map eI)], .int .i64 n] := rfl
def answeredR (s : StX) (x : Rst) : StX × Int :=
 if s.chk = false then (StX.z, 350)
 else if x.ok = false then (StX.z, 2)
 else if x.k ≠ 2 then (StX.z, 2)
 else if s.asked.length = 0 then (StX.z, 8)
 else if x.n ≠ s.num then (StX.z, 10)
 else if x.r = 6 then (s, 0)
 else if x.r = 1 then ({ s with out := zeroAt s.out s.asked s.asked.length, num := (s.num + 1) % 4294967296, asked := [] }, 0)
 else ({ s with num := (s.num + 1) % 4294967296, asked := [] }, 0)
theorem zeroAt_0 (out l : List Int) : zeroAt out l 0 = out := rfl
theorem answeredAll_ok {F : SF} {L nx : Nat} (s : StX) (hs : s.Le 1000) (x : Rst) (hx : x.ss.length ≤ 1000) : Con Tryz.prog 31 [s.v, x.v] F L nx nx (ansA (answeredR s x)) [] [] := by
  obtain ⟨out, inn, ps, num, seen, asked⟩ := s
  obtain ⟨ho, hi, hpl, ha2⟩ := hs
  simp only at ho hi hpl ha2
  have f0 : ((0 : Int) != 0) = false := rfl
  cases hc : chkB out inn num seen asked ps with
  | false =>
    have hv : answeredR ⟨out, inn, ps, num, seen, asked⟩ x = (StX.z, 350) := by simp only [answeredR, StX.chk, hc, ne_eq, if_true]
    rw [hv, ansA_err]
    have hb := fun F L nx => begin_bad (F := F) (L := L) (nx := nx) out inn asked num seen ps (by omega) (by omega) (by omega) (by omega) hc
    simp only [strV] at hb
    refine bdy Tryz.f31 ?_
    intro F3 hF1 hF2
    simp only [Tryz.f31, cx, StX.v, Rst.v, rstP, strV, go_sem, meths]
    refine CallVC.same (hb _ _ _) ?_
    simp only [show ((350 : Int) != 0) = true from rfl, go_sem]
    repeat refine sd2 ?_
    exact PostF.rs (v0 := .tup [.agg [.nilS, .nilS, .nilS, .int .i64 0, .int .i64 0, .nilS], .int .i64 350]) (.inr rfl)
  | true =>
  obtain ⟨hS, hP, hD⟩ := chkB_ok hc (by omega)
  have hbg : ∀ F L nx, Con Tryz.prog 54 [strV out inn num seen asked ps] F L nx (nx + 5) (.tup [.ptr ⟨L, nx⟩ 0 0, .int .i64 0]) (stU L nx out inn asked num seen ps) [] := fun F L nx => begin_ok out inn asked num seen hS ps hP hD
  simp only [strV, stU] at hbg
  have hpr := fun F L nx => putReset_ok (F := F) (L := L) (nx := nx) x.k x.n x.la x.r x.ss (by omega)
  simp only [rstP] at hpr
  have f9 : ((320 : Int) != 0) = true := rfl
  cases hkk : resetV x.k x.n x.la x.r x.ss with
  | false =>
    have hko : x.ok = false := hkk
    have hv : answeredR ⟨out, inn, ps, num, seen, asked⟩ x = (StX.z, 2) := by simp only [answeredR, StX.chk, hc, hko, ne_eq, if_true, if_false, Bool.true_eq_false]
    rw [hv, ansA_err]
    refine bdy Tryz.f31 ?_
    intro F3 hF1 hF2
    simp only [Tryz.f31, cx, StX.v, Rst.v, rstP, strV, go_sem, meths]
    refine CallVC.same (hbg _ _ _) ?_
    simp only [f0, go_sem]
    repeat refine sd2 ?_
    refine CallVC.same (hpr _ _ _) ?_
    rw [hkk]
    simp only [f9, if_true, if_false, Bool.false_eq_true, go_sem]
    repeat refine sd2 ?_
    exact PostF.rs (v0 := .tup [.agg [.nilS, .nilS, .nilS, .int .i64 0, .int .i64 0, .nilS], .int .i64 2]) (.inr rfl)
  | true =>
  have hko : x.ok = true := hkk
  by_cases h2 : x.k = 2
  case neg =>
    have hv : answeredR ⟨out, inn, ps, num, seen, asked⟩ x = (StX.z, 2) := by simp only [answeredR, StX.chk, hc, hko, h2, ne_eq, not_false_eq_true, if_true, if_false, Bool.true_eq_false]
    have f2 : (x.k != 2) = true := neT h2
    rw [hv, ansA_err]
    refine bdy Tryz.f31 ?_
    intro F3 hF1 hF2
    simp only [Tryz.f31, cx, StX.v, Rst.v, rstP, strV, go_sem, meths]
    refine CallVC.same (hbg _ _ _) ?_
    simp only [f0, go_sem]
    repeat refine sd2 ?_
    refine CallVC.same (hpr _ _ _) ?_
    rw [hkk]
    simp only [f0, if_true, if_false, Bool.false_eq_true, f2, Nat.add_zero, go_sem]
    repeat refine sd2 ?_
    exact PostF.rs (v0 := .tup [.agg [.nilS, .nilS, .nilS, .int .i64 0, .int .i64 0, .nilS], .int .i64 2]) (.inr rfl)
  have f2 : (x.k != 2) = false := neF h2
  by_cases h3 : asked.length = 0
  · have hv : answeredR ⟨out, inn, ps, num, seen, asked⟩ x = (StX.z, 8) := by simp only [answeredR, StX.chk, hc, hko, h2, h3, ne_eq, not_true_eq_false, if_true, if_false, Bool.true_eq_false]
    have f3 : ((asked.length : Int) == 0) = true := eqT (by omega)
    rw [hv, ansA_err]
    refine bdy Tryz.f31 ?_
    intro F3 hF1 hF2
    simp only [Tryz.f31, cx, StX.v, Rst.v, rstP, strV, go_sem, meths]
    refine CallVC.same (hbg _ _ _) ?_
    simp only [f0, go_sem]
    repeat refine sd2 ?_
    refine CallVC.same (hpr _ _ _) ?_
    rw [hkk]
    simp only [f0, if_true, if_false, Bool.false_eq_true, f2, f3, List.length_map, Nat.add_zero, go_sem]
    repeat refine sd2 ?_
    exact PostF.rs (v0 := .tup [.agg [.nilS, .nilS, .nilS, .int .i64 0, .int .i64 0, .nilS], .int .i64 8]) (.inr rfl)
  have f3 : ((asked.length : Int) == 0) = false := eqF (by omega)
  by_cases h4 : x.n = num
  case neg =>
    have hv : answeredR ⟨out, inn, ps, num, seen, asked⟩ x = (StX.z, 10) := by simp only [answeredR, StX.chk, hc, hko, h2, h3, h4, ne_eq, not_true_eq_false, not_false_eq_true, if_true, if_false, Bool.true_eq_false]
    have f4 : (x.n != num) = true := neT h4
    rw [hv, ansA_err]
    refine bdy Tryz.f31 ?_
    intro F3 hF1 hF2
    simp only [Tryz.f31, cx, StX.v, Rst.v, rstP, strV, go_sem, meths]
    refine CallVC.same (hbg _ _ _) ?_
    simp only [f0, go_sem]
    repeat refine sd2 ?_
    refine CallVC.same (hpr _ _ _) ?_
    rw [hkk]
    simp only [f0, if_true, if_false, Bool.false_eq_true, f2, f3, f4, List.length_map, Nat.add_zero, go_sem]
    repeat refine sd2 ?_
    exact PostF.rs (v0 := .tup [.agg [.nilS, .nilS, .nilS, .int .i64 0, .int .i64 0, .nilS], .int .i64 10]) (.inr rfl)
  have f4 : (x.n != num) = false := neF h4
  by_cases h5 : x.r = 6
  · have hv : answeredR ⟨out, inn, ps, num, seen, asked⟩ x = (⟨out, inn, ps, num, seen, asked⟩, 0) := by simp only [answeredR, StX.chk, hc, hko, h2, h3, h4, h5, ne_eq, not_true_eq_false, if_true, if_false, Bool.true_eq_false]
    have f5 : (x.r == 6) = true := eqT h5
    rw [hv, ansA_ok]
    simp only
    refine bdy Tryz.f31 ?_
    intro F3 hF1 hF2
    simp only [Tryz.f31, cx, StX.v, Rst.v, rstP, strV, go_sem, meths]
    refine CallVC.same (hbg _ _ _) ?_
    simp only [f0, go_sem]
    repeat refine sd2 ?_
    refine CallVC.same (hpr _ _ _) ?_
    rw [hkk]
    simp only [f0, if_true, if_false, Bool.false_eq_true, f2, f3, f4, f5, List.length_map, Nat.add_zero, go_sem]
    repeat refine sd2 ?_
    exact PostF.rs (v0 := .tup [.agg [.sl ⟨L + 1, 161⟩ 0 out.length, .sl ⟨L + 1, 162⟩ 0 inn.length, .sl ⟨L + 1, 163⟩ 0 ps.length, .int .i64 num, .int .i64 seen, .sl ⟨L + 1, 164⟩ 0 asked.length], .int .i64 0]) (.inr rfl)
  have f5' : (x.r == 6) = false := eqF h5
  have hn : 0 ≤ num ∧ num < 4294967296 := by
    have := hS.n
    simp [serB] at this
    exact this
  have h32x : (2 : Int) ^ 32 = 4294967296 := rfl
  have h32 : (2 : Int) ^ (32 : Int).toNat = 4294967296 := rfl
  have h32' : (2 : Int) ^ (Int.toNat 32) = 4294967296 := rfl
  by_cases h6 : x.r = 1
  · have hv : answeredR ⟨out, inn, ps, num, seen, asked⟩ x = (⟨zeroAt out asked asked.length, inn, ps, (num + 1) % 4294967296, seen, []⟩, 0) := by simp only [answeredR, StX.chk, hc, hko, h2, h3, h4, h6, ne_eq, not_true_eq_false, if_true, show ¬ ((1 : Int) = 6) by omega, if_false, Bool.true_eq_false]
    have f5 : (x.r == 1) = true := eqT h6
    rw [hv, ansA_ok]
    simp only
    refine bdy Tryz.f31 ?_
    intro F3 hF1 hF2
    simp only [Tryz.f31, cx, StX.v, Rst.v, rstP, strV, go_sem, meths]
    refine CallVC.same (hbg _ _ _) ?_
    simp only [f0, go_sem]
    repeat refine sd2 ?_
    refine CallVC.same (hpr _ _ _) ?_
    rw [hkk]
    simp only [f0, if_true, if_false, Bool.false_eq_true, f2, f3, f4, f5', f5, List.length_map, Nat.add_zero, go_sem]
    repeat refine sd2 ?_
    refine loopK.intro _ _ (I := fun i : Nat => ⟨[none, none, some (.ptr ⟨L + 1, 0⟩ 0 0), none, some (.ptr ⟨L + 1, 64⟩ 0 0), none, some (.ptr ⟨L + 1, 160⟩ 0 0), none, none, none, none, none, none, none, none, none, none, none, none, none, none, none, none, none, none, none, none, none, none, none, none, none, none, none, none, none, none, none, none, none, none, none, none, none, none, none, none, none, none, none, none, none, none, none, none, none, none, none, none, none, none, some (.fs 1 (asked.map eI)), some (.int .i64 asked.length), some (.int .i64 i), none, none, none, none, none, none, none, none, none, none, none, none, none, none, none, none, none, none, none, none, none, none, none, none, none, none],
      [(⟨L + 1, 0⟩, .rows 41 6 true true [[.fs 1 (out.map eI), .fs 1 (inn.map eI), .fs 8 (ps.map Dat.row), .int .i64 num, .int .i64 seen, .fs 1 (asked.map eI)]]), (⟨L + 1, 64⟩, .rows 41 6 true true [[.nilS, .nilS, .nilS, .int .i64 0, .int .i64 0, .nilS]]),
       (⟨L + 1, 160⟩, .rows 110 6 true false [[.sl ⟨L + 1, 161⟩ 0 out.length, .sl ⟨L + 1, 162⟩ 0 inn.length, .sl ⟨L + 1, 163⟩ 0 ps.length, .int .i64 num, .int .i64 seen, .sl ⟨L + 1, 164⟩ 0 asked.length]]),
       (⟨L + 1, 161⟩, .rows 3 1 true true ((zeroAt out asked i).map eI)), (⟨L + 1, 162⟩, .rows 3 1 true true (inn.map eI)), (⟨L + 1, 163⟩, .rows 32 8 true true (ps.map Dat.row))], 10000 * (i + 1)⟩) (pre := fun i => i ≤ asked.length) (μ := fun i => asked.length - i) 0 (by omega) ?_ ?_
    · refine Sub.of (hfz hF2) (by simp only [go_sem, subT, and_self, Int.natCast_zero]) ?_ (by simp [subK, keys]) (by simp)
      simp [subH, Tx.look, zeroAt_0]
    · intro i hi6
      have lz : ((zeroAt out asked i).map eI).length = out.length := by rw [List.length_map, zeroAt_len]
      by_cases hlt : i < asked.length
      · have f6 : decide ((i : Int) < (asked.length : Int)) = true := dT (by omega)
        obtain ⟨b1, b2⟩ := listedB_at hS.a i hlt
        have r0 := getD_eI asked hlt
        have r1 := getD_eI (zeroAt out asked i) (i := (asked.getD i 0).toNat) (by rw [zeroAt_len]; omega)
        simp only [f6, lz, r0, r1, eI, set_eI, ← zeroAt_succ _ _ _ hlt, Int.toNat_natCast, Nat.add_assoc, List.length_map, Nat.add_zero, go_sem]
        repeat refine sd2 ?_
        refine ⟨i + 1, by omega, by omega, ?_⟩
        refine Sub.o hF2 ?_
        simp [subH, Tx.look]
      · have f6 : decide ((i : Int) < (asked.length : Int)) = false := dF (by omega)
        have e : i = asked.length := by omega
        subst e
        simp only [f6, Nat.add_assoc, go_sem]
        repeat refine sd2 ?_
        refine CallVC.same (behind_ok num 32 (by omega) (by omega) (by omega) (by omega)) ?_
        simp only [h32x, Nat.add_assoc, Nat.add_zero, go_sem]
        repeat refine sd2 ?_
        exact PostF.rs (v0 := .tup [.agg [.sl ⟨L + 1, 161⟩ 0 out.length, .sl ⟨L + 1, 162⟩ 0 inn.length, .sl ⟨L + 1, 163⟩ 0 ps.length, .int .i64 ((num + 1) % 4294967296), .int .i64 seen, .nilS], .int .i64 0] ) (.inr rfl) (hw := by simp [Wk, WkL, Tx.look, List.take_of_length_le, zeroAt_len])
  · have hv : answeredR ⟨out, inn, ps, num, seen, asked⟩ x = (⟨out, inn, ps, (num + 1) % 4294967296, seen, []⟩, 0) := by simp only [answeredR, StX.chk, hc, hko, h2, h3, h4, h5, h6, ne_eq, not_true_eq_false, if_false, Bool.true_eq_false]
    have f5 : (x.r == 1) = false := eqF h6
    rw [hv, ansA_ok]
    simp only
    refine bdy Tryz.f31 ?_
    intro F3 hF1 hF2
    simp only [Tryz.f31, cx, StX.v, Rst.v, rstP, strV, go_sem, meths]
    refine CallVC.same (hbg _ _ _) ?_
    simp only [f0, go_sem]
    repeat refine sd2 ?_
    refine CallVC.same (hpr _ _ _) ?_
    rw [hkk]
    simp only [f0, if_true, if_false, Bool.false_eq_true, f2, f3, f4, f5', f5, List.length_map, Nat.add_zero, go_sem]
    repeat refine sd2 ?_
    refine CallVC.same (behind_ok num 32 (by omega) (by omega) (by omega) (by omega)) ?_
    simp only [h32x, Nat.add_zero, go_sem]
    repeat refine sd2 ?_
    exact PostF.rs (v0 := .tup [.agg [.sl ⟨L + 1, 161⟩ 0 out.length, .sl ⟨L + 1, 162⟩ 0 inn.length, .sl ⟨L + 1, 163⟩ 0 ps.length, .int .i64 ((num + 1) % 4294967296), .int .i64 seen, .nilS], .int .i64 0] ) (.inr rfl)
theorem refAnsweredAll_ok {F : SF} {L nx : Nat} (s : StX) (hs : s.Le 1000) (x : Rst) (hx : x.ss.length ≤ 1000) : Con Tryz.prog 32 [s.v, x.v] F L nx nx (ansA (answeredR s x)) [] [] := by
  obtain ⟨out, inn, ps, num, seen, asked⟩ := s
  obtain ⟨ho, hi, hpl, ha2⟩ := hs
  simp only at ho hi hpl ha2
  have f0 : ((0 : Int) != 0) = false := rfl
  cases hc : chkB out inn num seen asked ps with
  | false =>
    have hv : answeredR ⟨out, inn, ps, num, seen, asked⟩ x = (StX.z, 350) := by simp only [answeredR, StX.chk, hc, ne_eq, if_true]
    rw [hv, ansA_err]
    have hri := fun F L nx => right_ok (F := F) (L := L) (nx := nx) out inn asked num seen ps (by omega) (by omega) (by omega) (by omega)
    rw [hc] at hri
    simp only [strV] at hri
    refine bdy Tryz.f32 ?_
    intro F3 hF1 hF2
    simp only [Tryz.f32, cx, StX.v, Rst.v, rstP, strV, go_sem, meths]
    refine CallVC.same (hri _ _ _) ?_
    simp only [go_sem]
    repeat refine sd2 ?_
    exact PostF.rs (v0 := .tup [.agg [.nilS, .nilS, .nilS, .int .i64 0, .int .i64 0, .nilS], .int .i64 350]) (.inr rfl)
  | true =>
  obtain ⟨hS, hP, hD⟩ := chkB_ok hc (by omega)
  have hri := fun F L nx => right_ok (F := F) (L := L) (nx := nx) out inn asked num seen ps (by omega) (by omega) (by omega) (by omega)
  rw [hc] at hri
  simp only [strV] at hri
  have hpr := fun F L nx => rightReset_ok (F := F) (L := L) (nx := nx) x.k x.n x.la x.r x.ss (by omega)
  simp only [rstP] at hpr
  have hco := fun F L nx => copied_ok (F := F) (L := L) (nx := nx) out inn asked num seen ps (by omega) (by omega) (by omega) (by omega)
  simp only [strV] at hco
  cases hkk : resetV x.k x.n x.la x.r x.ss with
  | false =>
    have hko : x.ok = false := hkk
    have hv : answeredR ⟨out, inn, ps, num, seen, asked⟩ x = (StX.z, 2) := by simp only [answeredR, StX.chk, hc, hko, ne_eq, if_true, if_false, Bool.true_eq_false]
    rw [hv, ansA_err]
    refine bdy Tryz.f32 ?_
    intro F3 hF1 hF2
    simp only [Tryz.f32, cx, StX.v, Rst.v, rstP, strV, go_sem, meths]
    refine CallVC.same (hri _ _ _) ?_
    simp only [go_sem]
    repeat refine sd2 ?_
    refine CallVC.same (hpr _ _ _) ?_
    rw [hkk]
    simp only [go_sem]
    repeat refine sd2 ?_
    exact PostF.rs (v0 := .tup [.agg [.nilS, .nilS, .nilS, .int .i64 0, .int .i64 0, .nilS], .int .i64 2]) (.inr rfl)
  | true =>
  have hko : x.ok = true := hkk
  by_cases h2 : x.k = 2
  case neg =>
    have hv : answeredR ⟨out, inn, ps, num, seen, asked⟩ x = (StX.z, 2) := by simp only [answeredR, StX.chk, hc, hko, h2, ne_eq, not_false_eq_true, if_true, if_false, Bool.true_eq_false]
    have f2 : (x.k != 2) = true := neT h2
    rw [hv, ansA_err]
    refine bdy Tryz.f32 ?_
    intro F3 hF1 hF2
    simp only [Tryz.f32, cx, StX.v, Rst.v, rstP, strV, go_sem, meths]
    refine CallVC.same (hri _ _ _) ?_
    simp only [go_sem]
    repeat refine sd2 ?_
    refine CallVC.same (hpr _ _ _) ?_
    rw [hkk]
    simp only [f2, Nat.add_zero, go_sem]
    repeat refine sd2 ?_
    exact PostF.rs (v0 := .tup [.agg [.nilS, .nilS, .nilS, .int .i64 0, .int .i64 0, .nilS], .int .i64 2]) (.inr rfl)
  have f2 : (x.k != 2) = false := neF h2
  by_cases h3 : asked.length = 0
  · have hv : answeredR ⟨out, inn, ps, num, seen, asked⟩ x = (StX.z, 8) := by simp only [answeredR, StX.chk, hc, hko, h2, h3, ne_eq, not_true_eq_false, if_true, if_false, Bool.true_eq_false]
    have f3 : ((asked.length : Int) == 0) = true := eqT (by omega)
    rw [hv, ansA_err]
    refine bdy Tryz.f32 ?_
    intro F3 hF1 hF2
    simp only [Tryz.f32, cx, StX.v, Rst.v, rstP, strV, go_sem, meths]
    refine CallVC.same (hri _ _ _) ?_
    simp only [go_sem]
    repeat refine sd2 ?_
    refine CallVC.same (hpr _ _ _) ?_
    rw [hkk]
    simp only [f2, f3, List.length_map, Nat.add_zero, go_sem]
    repeat refine sd2 ?_
    exact PostF.rs (v0 := .tup [.agg [.nilS, .nilS, .nilS, .int .i64 0, .int .i64 0, .nilS], .int .i64 8]) (.inr rfl)
  have f3 : ((asked.length : Int) == 0) = false := eqF (by omega)
  by_cases h4 : x.n = num
  case neg =>
    have hv : answeredR ⟨out, inn, ps, num, seen, asked⟩ x = (StX.z, 10) := by simp only [answeredR, StX.chk, hc, hko, h2, h3, h4, ne_eq, not_true_eq_false, not_false_eq_true, if_true, if_false, Bool.true_eq_false]
    have f4 : (x.n != num) = true := neT h4
    rw [hv, ansA_err]
    refine bdy Tryz.f32 ?_
    intro F3 hF1 hF2
    simp only [Tryz.f32, cx, StX.v, Rst.v, rstP, strV, go_sem, meths]
    refine CallVC.same (hri _ _ _) ?_
    simp only [go_sem]
    repeat refine sd2 ?_
    refine CallVC.same (hpr _ _ _) ?_
    rw [hkk]
    simp only [f2, f3, f4, List.length_map, Nat.add_zero, go_sem]
    repeat refine sd2 ?_
    exact PostF.rs (v0 := .tup [.agg [.nilS, .nilS, .nilS, .int .i64 0, .int .i64 0, .nilS], .int .i64 10]) (.inr rfl)
  have f4 : (x.n != num) = false := neF h4
  by_cases h5 : x.r = 6
  · have hv : answeredR ⟨out, inn, ps, num, seen, asked⟩ x = (⟨out, inn, ps, num, seen, asked⟩, 0) := by simp only [answeredR, StX.chk, hc, hko, h2, h3, h4, h5, ne_eq, not_true_eq_false, if_true, if_false, Bool.true_eq_false]
    have f5 : (x.r == 6) = true := eqT h5
    rw [hv, ansA_ok]
    simp only
    refine bdy Tryz.f32 ?_
    intro F3 hF1 hF2
    simp only [Tryz.f32, cx, StX.v, Rst.v, rstP, strV, go_sem, meths]
    refine CallVC.same (hri _ _ _) ?_
    simp only [go_sem]
    repeat refine sd2 ?_
    refine CallVC.same (hpr _ _ _) ?_
    rw [hkk]
    simp only [f2, f3, f4, f5, List.length_map, Nat.add_zero, go_sem]
    repeat refine sd2 ?_
    exact PostF.rs (v0 := .tup [.agg [.fs 1 (out.map eI), .fs 1 (inn.map eI), .fs 8 (ps.map Dat.row), .int .i64 num, .int .i64 seen, .fs 1 (asked.map eI)], .int .i64 0]) (.inr rfl)
  have f5' : (x.r == 6) = false := eqF h5
  have hn : 0 ≤ num ∧ num < 4294967296 := by
    have := hS.n
    simp [serB] at this
    exact this
  have h32x : (2 : Int) ^ 32 = 4294967296 := rfl
  have h32 : (2 : Int) ^ (32 : Int).toNat = 4294967296 := rfl
  have h32' : (2 : Int) ^ (Int.toNat 32) = 4294967296 := rfl
  by_cases h6 : x.r = 1
  · have hv : answeredR ⟨out, inn, ps, num, seen, asked⟩ x = (⟨zeroAt out asked asked.length, inn, ps, (num + 1) % 4294967296, seen, []⟩, 0) := by simp only [answeredR, StX.chk, hc, hko, h2, h3, h4, h6, ne_eq, not_true_eq_false, if_true, show ¬ ((1 : Int) = 6) by omega, if_false, Bool.true_eq_false]
    have f5 : (x.r == 1) = true := eqT h6
    rw [hv, ansA_ok]
    simp only
    refine bdy Tryz.f32 ?_
    intro F3 hF1 hF2
    simp only [Tryz.f32, cx, StX.v, Rst.v, rstP, strV, go_sem, meths]
    refine CallVC.same (hri _ _ _) ?_
    simp only [go_sem]
    repeat refine sd2 ?_
    refine CallVC.same (hpr _ _ _) ?_
    rw [hkk]
    simp only [f2, f3, f4, f5', List.length_map, Nat.add_zero, go_sem]
    repeat refine sd2 ?_
    refine CallVC.same (hco _ _ _) ?_
    simp only [go_sem]
    repeat refine sd2 ?_
    refine loopK.intro _ _ (I := fun i : Nat => ⟨[none, none, some (.ptr ⟨L + 1, 0⟩ 0 0), some (.ptr ⟨L + 1, 32⟩ 0 0), some (.ptr ⟨L + 1, 64⟩ 0 0), none, some (.int .i64 i), none, none, none, none, none, none, none, none, none, none, none, none, none, none, none, none, none, none, none, none, none, none, none, none, none, none, none, none, none, none, none, none, none, none, none, none, none, none, none, none, none, none, none, none, none, none, none, none, none, none, none, none, none, none, none, none, none, none, none, none, none],
      [(⟨L + 1, 0⟩, .rows 41 6 true false [[.sl ⟨L + 1, 992⟩ 0 out.length, .sl ⟨L + 1, 993⟩ 0 inn.length, .sl ⟨L + 1, 994⟩ 0 ps.length, .int .i64 num, .int .i64 seen, .sl ⟨L + 1, 995⟩ 0 asked.length]]), (⟨L + 1, 32⟩, .rows 75 5 true true [[.int .i64 x.k, .int .i64 x.n, .int .i64 x.la, .int .i64 x.r, .fs 1 (x.ss.map eI)]]), (⟨L + 1, 64⟩, .rows 41 6 true true [[.nilS, .nilS, .nilS, .int .i64 0, .int .i64 0, .nilS]]),
       (⟨L + 1, 992⟩, .rows 3 1 true true ((zeroAt out asked i).map eI)), (⟨L + 1, 993⟩, .rows 3 1 true true (inn.map eI)), (⟨L + 1, 994⟩, .rows 32 8 true true (ps.map Dat.row)), (⟨L + 1, 995⟩, .rows 3 1 true true (asked.map eI))], 10000 * (i + 1)⟩) (pre := fun i => i ≤ asked.length) (μ := fun i => asked.length - i) 0 (by omega) ?_ ?_
    · refine Sub.of (hfz hF2) (by simp only [go_sem, subT, and_self, Int.natCast_zero]) ?_ (by simp [subK, keys]) (by simp)
      simp [subH, Tx.look, zeroAt_0]
    · intro i hi6
      have lz : ((zeroAt out asked i).map eI).length = out.length := by rw [List.length_map, zeroAt_len]
      by_cases hlt : i < asked.length
      · have f6 : decide ((i : Int) < (asked.length : Int)) = true := dT (by omega)
        obtain ⟨b1, b2⟩ := listedB_at hS.a i hlt
        have r0 := getD_eI asked hlt
        have r1 := getD_eI (zeroAt out asked i) (i := (asked.getD i 0).toNat) (by rw [zeroAt_len]; omega)
        simp only [f6, f5, lz, r0, r1, eI, set_eI, ← zeroAt_succ _ _ _ hlt, Int.toNat_natCast, Nat.add_assoc, List.length_map, Nat.add_zero, go_sem]
        repeat refine sd2 ?_
        refine ⟨okDyn_num (fun x => x.i % 10000) (by simp only [numF, List.map, Nat.reduceMod]; kernel_rfl), ?_⟩
        repeat refine sd2 ?_
        refine ⟨i + 1, by omega, by omega, ?_⟩
        refine Sub.o hF2 ?_
        simp [subH, Tx.look]
      · have f6 : decide ((i : Int) < (asked.length : Int)) = false := dF (by omega)
        have e : i = asked.length := by omega
        subst e
        simp only [f6, Nat.add_assoc, go_sem]
        repeat refine sd2 ?_
        refine CallVC.same (behind32R_ok num (by omega) (by omega)) ?_
        simp only [Nat.add_assoc, go_sem]
        repeat refine sd2 ?_
        exact PostF.rs (v0 := .tup [.agg [.sl ⟨L + 1, 992⟩ 0 out.length, .sl ⟨L + 1, 993⟩ 0 inn.length, .sl ⟨L + 1, 994⟩ 0 ps.length, .int .i64 ((num + 1) % 4294967296), .int .i64 seen, .nilS], .int .i64 0] ) (.inr rfl) (hw := by simp [Wk, WkL, Tx.look, List.take_of_length_le, zeroAt_len])
  · have hv : answeredR ⟨out, inn, ps, num, seen, asked⟩ x = (⟨out, inn, ps, (num + 1) % 4294967296, seen, []⟩, 0) := by simp only [answeredR, StX.chk, hc, hko, h2, h3, h4, h5, h6, ne_eq, not_true_eq_false, if_false, Bool.true_eq_false]
    have f5 : (x.r == 1) = false := eqF h6
    rw [hv, ansA_ok]
    simp only
    refine bdy Tryz.f32 ?_
    intro F3 hF1 hF2
    simp only [Tryz.f32, cx, StX.v, Rst.v, rstP, strV, go_sem, meths]
    refine CallVC.same (hri _ _ _) ?_
    simp only [go_sem]
    repeat refine sd2 ?_
    refine CallVC.same (hpr _ _ _) ?_
    rw [hkk]
    simp only [f2, f3, f4, f5', List.length_map, Nat.add_zero, go_sem]
    repeat refine sd2 ?_
    refine CallVC.same (hco _ _ _) ?_
    simp only [go_sem]
    repeat refine sd2 ?_
    refine loopK.intro _ _ (I := fun i : Nat => ⟨[none, none, some (.ptr ⟨L + 1, 0⟩ 0 0), some (.ptr ⟨L + 1, 32⟩ 0 0), some (.ptr ⟨L + 1, 64⟩ 0 0), none, some (.int .i64 i), none, none, none, none, none, none, none, none, none, none, none, none, none, none, none, none, none, none, none, none, none, none, none, none, none, none, none, none, none, none, none, none, none, none, none, none, none, none, none, none, none, none, none, none, none, none, none, none, none, none, none, none, none, none, none, none, none, none, none, none, none],
      [(⟨L + 1, 0⟩, .rows 41 6 true false [[.sl ⟨L + 1, 992⟩ 0 out.length, .sl ⟨L + 1, 993⟩ 0 inn.length, .sl ⟨L + 1, 994⟩ 0 ps.length, .int .i64 num, .int .i64 seen, .sl ⟨L + 1, 995⟩ 0 asked.length]]), (⟨L + 1, 32⟩, .rows 75 5 true true [[.int .i64 x.k, .int .i64 x.n, .int .i64 x.la, .int .i64 x.r, .fs 1 (x.ss.map eI)]]), (⟨L + 1, 64⟩, .rows 41 6 true true [[.nilS, .nilS, .nilS, .int .i64 0, .int .i64 0, .nilS]]),
       (⟨L + 1, 992⟩, .rows 3 1 true true ((out).map eI)), (⟨L + 1, 993⟩, .rows 3 1 true true (inn.map eI)), (⟨L + 1, 994⟩, .rows 32 8 true true (ps.map Dat.row)), (⟨L + 1, 995⟩, .rows 3 1 true true (asked.map eI))], 10000 * (i + 1)⟩) (pre := fun i => i = 0) (μ := fun i => asked.length - i) 0 rfl ?_ ?_
    · refine Sub.of (hfz hF2) (by simp only [go_sem, subT, and_self, Int.natCast_zero]) ?_ (by simp [subK, keys]) (by simp)
      simp [subH, Tx.look]
    · rintro i rfl
      have f6 : decide ((0 : Int) < (asked.length : Int)) = true := dT (by omega)
      simp only [f6, f5, Nat.zero_add, Int.natCast_zero, go_sem]
      repeat refine sd2 ?_
      refine CallVC.same (behind32R_ok num (by omega) (by omega)) ?_
      simp only [go_sem]
      repeat refine sd2 ?_
      exact PostF.rs (v0 := .tup [.agg [.sl ⟨L + 1, 992⟩ 0 out.length, .sl ⟨L + 1, 993⟩ 0 inn.length, .sl ⟨L + 1, 994⟩ 0 ps.length, .int .i64 ((num + 1) % 4294967296), .int .i64 seen, .nilS], .int .i64 0] ) (.inr rfl)
end Go.Proofs.YtfhhbkehlfipgaaGreat
end
