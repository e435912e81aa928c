/- Lemmas for the walk: ZC75, ZC76, ZD10. -/
import Derived.Test.YtfhhbkehlfipgaaGreatP18
import Derived.Test.YtfhhbkehlfipgaaGreatP19
import Derived.Test.YtfhhbkehlfipgaaGreatP15
import Derived.Test.YtfhhbkehlfipgaaGreatP13
import Derived.Test.YtfhhbkehlfipgaaGreatP14
set_option linter.all false
section
namespace Go.Proofs.YtfhhbkehlfipgaaGreat
open Go.Tx
set_option maxRecDepth 100000
set_option maxHeartbeats 16000000
def StX.z : StX := ⟨[], [], [], 0, 0, []⟩
def nopB (inn : List Int) (ps : List Dat) (d : Dat) : Bool := ps.any (tsnB d.tsn) || (!d.lo && decide (lead d.sq (inn.getD d.st.toNat 0) 16 < 0))
def StX.chk (s : StX) : Bool := chkB s.out s.inn s.num s.seen s.asked s.ps
def takeR (s : StX) (d : Dat) : StX × List Msg × Int :=
 if s.chk = false then (StX.z, [], 350)
 else if d.ok = false then (StX.z, [], 320)
 else if (s.inn.length : Int) ≤ d.st then (StX.z, [], 2)
 else if nopB s.inn s.ps d = true then (s, [], 0)
 else if 80 ≤ s.ps.length then (StX.z, [], 3)
 else ({ s with inn := (takeG s.inn s.ps d).1, ps := (takeG s.inn s.ps d).2.1 }, (takeG s.inn s.ps d).2.2, 0)
def ansV (r : StX × List Msg × Int) : PV := .tup [r.1.v, .fs 4 (r.2.1.map Msg.row), .int .i64 r.2.2]
theorem takeG_nop {inn : List Int} {ps : List Dat} {d : Dat} (h : nopB inn ps d = true) : takeG inn ps d = (inn, ps, []) := by
 unfold takeG
 rw [← tsn_any]
 unfold nopB at h
 rw [if_pos h]
theorem ansV_err (n : Int) : ansV (StX.z, [], n) = .tup [.agg [.fs 1 [], .fs 1 [], .fs 8 [], .int .i64 0, .int .i64 0, .fs 1 []], .fs 4 [], .int .i64 n] := rfl
theorem ansV_ok (s : StX) (l : List Msg) : ansV (s, l, 0) = .tup [.agg [.fs 1 (s.out.map eI), .fs 1 (s.inn.map eI), .fs 8 (s.ps.map Dat.row), .int .i64 s.num, .int .i64 s.seen, .fs 1 (s.asked.map eI)], .fs 4 (l.map Msg.row), .int .i64 0] := rfl
theorem takeAll_ok {F : SF} {L nx : Nat} (s : StX) (hs : s.Le 1000) (d : Dat) : Con Tryz.prog 60 [s.v, .agg d.row] F L nx nx (ansV (takeR s d)) [] [] := by
 obtain ⟨out, inn, ps, num, seen, asked⟩ := s
 obtain ⟨ho, hi, hpl, ha2⟩ := hs
 simp only at ho hi hpl ha2
 replace ho : out.length ≤ 1000000 := by omega
 replace hi : inn.length ≤ 1000000 := by omega
 replace ha2 : asked.length ≤ 1000000 := by omega
 have hp1000 := hpl
 replace hpl : ps.length ≤ 1000000 := by omega
 have f9 : ((350 : Int) != 0) = true := rfl
 have f0 : ((0 : Int) != 0) = false := rfl
 cases hc : chkB out inn num seen asked ps with
 | false =>
  have hv : takeR ⟨out, inn, ps, num, seen, asked⟩ d = (StX.z, [], 350) := by simp only [takeR, StX.chk, hc, if_true]
  rw [hv, ansV_err]
  have hb := fun F L nx => begin_bad (F := F) (L := L) (nx := nx) out inn asked num seen ps ho hi ha2 hpl hc
  simp only [strV] at hb
  refine bdy Tryz.f60 ?_
  intro F3 hF1 hF2
  simp only [Tryz.f60, cx, StX.v, strV, Dat.row, go_sem, meths]
  refine CallVC.same (hb _ _ _) ?_
  simp only [f9, go_sem]
  repeat refine sd2 ?_
  exact PostF.rs (v0 := .tup [.agg [.nilS, .nilS, .nilS, .int .i64 0, .int .i64 0, .nilS], .nilS, .int .i64 350]) (.inr rfl)
 | true =>
 obtain ⟨hS, hP, hD⟩ := chkB_ok hc ha2
 have hp80 := hP.len
 have ho2 := hS.o2
 have hi2 := hS.i2
 cases hk : d.ok with
 | false =>
  have hv : takeR ⟨out, inn, ps, num, seen, asked⟩ d = (StX.z, [], 320) := by simp only [takeR, StX.chk, hc, hk, if_true, if_false, Bool.true_eq_false]
  rw [hv, ansV_err]
  have hbg : ∀ F L nx, Con Tryz.prog 54 [strV out inn num seen asked ps] F L nx (nx + 5) (.tup [.ptr ⟨L, nx⟩ 0 0, .int .i64 0]) (stU L nx out inn asked num seen ps) [] := fun F L nx => begin_ok out inn asked num seen hS ps hP hD
  simp only [strV, stU] at hbg
  refine bdy Tryz.f60 ?_
  intro F3 hF1 hF2
  simp only [Tryz.f60, cx, StX.v, strV, Dat.row, go_sem, meths]
  refine CallVC.same (hbg _ _ _) ?_
  simp only [f0, go_sem]
  repeat refine sd2 ?_
  refine CallVC.same (piece_ok d) ?_
  rw [hk]
  simp only [go_sem]
  repeat refine sd2 ?_
  exact PostF.rs (v0 := .tup [.agg [.nilS, .nilS, .nilS, .int .i64 0, .int .i64 0, .nilS], .nilS, .int .i64 320]) (.inr rfl)
 | true =>
 by_cases hst : (inn.length : Int) ≤ d.st
 ·have f1 : decide ((inn.length : Int) ≤ d.st) = true := dT hst
  have hv : takeR ⟨out, inn, ps, num, seen, asked⟩ d = (StX.z, [], 2) := by simp only [takeR, StX.chk, hc, hk, hst, if_true, if_false, Bool.true_eq_false]
  rw [hv, ansV_err]
  have hbg : ∀ F L nx, Con Tryz.prog 54 [strV out inn num seen asked ps] F L nx (nx + 5) (.tup [.ptr ⟨L, nx⟩ 0 0, .int .i64 0]) (stU L nx out inn asked num seen ps) [] := fun F L nx => begin_ok out inn asked num seen hS ps hP hD
  simp only [strV, stU] at hbg
  refine bdy Tryz.f60 ?_
  intro F3 hF1 hF2
  simp only [Tryz.f60, cx, StX.v, strV, Dat.row, go_sem, meths]
  refine CallVC.same (hbg _ _ _) ?_
  simp only [f0, go_sem]
  repeat refine sd2 ?_
  refine CallVC.same (piece_ok d) ?_
  rw [hk]
  simp only [f1, List.length_map, go_sem]
  repeat refine sd2 ?_
  exact PostF.rs (v0 := .tup [.agg [.nilS, .nilS, .nilS, .int .i64 0, .int .i64 0, .nilS], .nilS, .int .i64 2]) (.inr rfl)
 have f1 : decide ((inn.length : Int) ≤ d.st) = false := dF hst
 have hok := Dat.ok_bounds hk
 have r1 := getD_eI inn (i := d.st.toNat) (by omega)
 have hin := serB16_at hS.i3 (k := d.st.toNat) (by omega)
 by_cases hl : ps.length < 80
 ·have hv : takeR ⟨out, inn, ps, num, seen, asked⟩ d = (⟨out, (takeG inn ps d).1, (takeG inn ps d).2.1, num, seen, asked⟩, (takeG inn ps d).2.2, 0) := by
   have h8 : ¬ 80 ≤ ps.length := by omega
   cases hn : nopB inn ps d with
   | true => simp only [takeR, StX.chk, hc, hk, hst, hn, if_true, if_false, Bool.true_eq_false, takeG_nop hn]
   | false => simp only [takeR, StX.chk, hc, hk, hst, hn, h8, if_false, Bool.true_eq_false, Bool.false_eq_true]
  rw [hv]
  exact take_ok out inn asked num seen hS ps hP hD d hk (by omega) hl
 have f2 : decide ((80 : Int) ≤ (ps.length : Int)) = true := dT (by omega)
 cases hda : ps.any (tsnB d.tsn) with
 | true =>
  have hv : takeR ⟨out, inn, ps, num, seen, asked⟩ d = (⟨out, inn, ps, num, seen, asked⟩, [], 0) := by simp only [takeR, StX.chk, hc, hk, hst, nopB, hda, Bool.true_or, if_true, if_false, Bool.true_eq_false]
  rw [hv, ansV_ok]
  have hbg : ∀ F L nx, Con Tryz.prog 54 [strV out inn num seen asked ps] F L nx (nx + 5) (.tup [.ptr ⟨L, nx⟩ 0 0, .int .i64 0]) (stU L nx out inn asked num seen ps) [] := fun F L nx => begin_ok out inn asked num seen hS ps hP hD
  simp only [strV, stU] at hbg
  refine bdy Tryz.f60 ?_
  intro F3 hF1 hF2
  simp only [Tryz.f60, cx, StX.v, strV, Dat.row, go_sem, meths]
  refine CallVC.same (hbg _ _ _) ?_
  simp only [f0, go_sem]
  repeat refine sd2 ?_
  refine CallVC.same (piece_ok d) ?_
  rw [hk]
  simp only [f1, List.length_map, go_sem]
  repeat refine sd2 ?_
  refine CallVC.same (containsFuncD_ok ps 100 [] [.ptr ⟨L + 1, 32⟩ 0 0] (fun y => y.tsn == d.tsn) [⟨L + 1, 32⟩] (by simp) (by omega) (fun x hx L' nx' hL => take1_ok x ⟨L + 1, 32⟩ hL 32 true true d (by simp [Dat.row]))) ?_
  rw [show (ps.any fun y => y.tsn == d.tsn) = ps.any (tsnB d.tsn) from rfl]
  rw [hda]
  simp only [Nat.add_zero, go_sem]
  repeat refine sd2 ?_
  refine ⟨okDyn_num (fun x => x.i) (by kernel_rfl), ?_⟩
  repeat refine sd2 ?_
  exact PostF.rs (v0 := .tup [.agg [.sl ⟨L + 1, 193⟩ 0 out.length, .sl ⟨L + 1, 194⟩ 0 inn.length, .sl ⟨L + 1, 195⟩ 0 ps.length, .int .i64 num, .int .i64 seen, .sl ⟨L + 1, 196⟩ 0 asked.length], .nilS, .int .i64 0]) (.inr rfl)
 | false =>
 cases hlo : d.lo with
 | true =>
  have hv : takeR ⟨out, inn, ps, num, seen, asked⟩ d = (StX.z, [], 3) := by simp only [takeR, StX.chk, hc, hk, hst, nopB, hda, hlo, show 80 ≤ ps.length by omega, Bool.false_or, Bool.not_true, Bool.false_and, Bool.false_eq_true, if_true, if_false, Bool.true_eq_false]
  rw [hv, ansV_err]
  have hbg : ∀ F L nx, Con Tryz.prog 54 [strV out inn num seen asked ps] F L nx (nx + 5) (.tup [.ptr ⟨L, nx⟩ 0 0, .int .i64 0]) (stU L nx out inn asked num seen ps) [] := fun F L nx => begin_ok out inn asked num seen hS ps hP hD
  simp only [strV, stU] at hbg
  refine bdy Tryz.f60 ?_
  intro F3 hF1 hF2
  simp only [Tryz.f60, cx, StX.v, strV, Dat.row, go_sem, meths]
  refine CallVC.same (hbg _ _ _) ?_
  simp only [f0, go_sem]
  repeat refine sd2 ?_
  refine CallVC.same (piece_ok d) ?_
  rw [hk]
  simp only [f1, hlo, List.length_map, go_sem]
  repeat refine sd2 ?_
  refine CallVC.same (containsFuncD_ok ps 100 [] [.ptr ⟨L + 1, 32⟩ 0 0] (fun y => y.tsn == d.tsn) [⟨L + 1, 32⟩] (by simp) (by omega) (fun x hx L' nx' hL => take1_ok x ⟨L + 1, 32⟩ hL 32 true true d (by simp [Dat.row, hlo]))) ?_
  rw [show (ps.any fun y => y.tsn == d.tsn) = ps.any (tsnB d.tsn) from rfl]
  rw [hda]
  simp only [f2, List.length_map, go_sem]
  repeat refine sd2 ?_
  refine ⟨okDyn_num (fun x => x.i) (by kernel_rfl), ?_⟩
  repeat refine sd2 ?_
  exact PostF.rs (v0 := .tup [.agg [.nilS, .nilS, .nilS, .int .i64 0, .int .i64 0, .nilS], .nilS, .int .i64 3]) (.inr rfl)
 | false =>
 by_cases hld : lead d.sq (inn.getD d.st.toNat 0) 16 < 0
 ·have g4 : decide (lead d.sq (inn.getD d.st.toNat 0) 16 < 0) = true := dT hld
  have hv : takeR ⟨out, inn, ps, num, seen, asked⟩ d = (⟨out, inn, ps, num, seen, asked⟩, [], 0) := by simp only [takeR, StX.chk, hc, hk, hst, nopB, hda, hlo, g4, Bool.false_or, Bool.not_false, Bool.true_and, if_true, if_false, Bool.true_eq_false]
  rw [hv, ansV_ok]
  have hbg : ∀ F L nx, Con Tryz.prog 54 [strV out inn num seen asked ps] F L nx (nx + 5) (.tup [.ptr ⟨L, nx⟩ 0 0, .int .i64 0]) (stU L nx out inn asked num seen ps) [] := fun F L nx => begin_ok out inn asked num seen hS ps hP hD
  simp only [strV, stU] at hbg
  refine bdy Tryz.f60 ?_
  intro F3 hF1 hF2
  simp only [Tryz.f60, cx, StX.v, strV, Dat.row, go_sem, meths]
  refine CallVC.same (hbg _ _ _) ?_
  simp only [f0, go_sem]
  repeat refine sd2 ?_
  refine CallVC.same (piece_ok d) ?_
  rw [hk]
  simp only [f1, hlo, List.length_map, go_sem]
  repeat refine sd2 ?_
  refine CallVC.same (containsFuncD_ok ps 100 [] [.ptr ⟨L + 1, 32⟩ 0 0] (fun y => y.tsn == d.tsn) [⟨L + 1, 32⟩] (by simp) (by omega) (fun x hx L' nx' hL => take1_ok x ⟨L + 1, 32⟩ hL 32 true true d (by simp [Dat.row, hlo]))) ?_
  rw [show (ps.any fun y => y.tsn == d.tsn) = ps.any (tsnB d.tsn) from rfl]
  rw [hda]
  simp only [r1, eI, List.length_map, go_sem]
  repeat refine sd2 ?_
  refine CallVC.same (lead16_ok d.sq (inn.getD d.st.toNat 0) hok.2.2.2.2.1 hok.2.2.2.2.2.1 hin.1 hin.2) ?_
  simp only [g4, Nat.add_zero, go_sem]
  repeat refine sd2 ?_
  refine ⟨okDyn_num (fun x => x.i) (by kernel_rfl), ?_⟩
  repeat refine sd2 ?_
  exact PostF.rs (v0 := .tup [.agg [.sl ⟨L + 1, 193⟩ 0 out.length, .sl ⟨L + 1, 194⟩ 0 inn.length, .sl ⟨L + 1, 195⟩ 0 ps.length, .int .i64 num, .int .i64 seen, .sl ⟨L + 1, 196⟩ 0 asked.length], .nilS, .int .i64 0]) (.inr rfl)
 ·have g4 : decide (lead d.sq (inn.getD d.st.toNat 0) 16 < 0) = false := dF hld
  have hv : takeR ⟨out, inn, ps, num, seen, asked⟩ d = (StX.z, [], 3) := by simp only [takeR, StX.chk, hc, hk, hst, nopB, hda, hlo, g4, show 80 ≤ ps.length by omega, Bool.false_or, Bool.not_false, Bool.true_and, Bool.false_eq_true, if_true, if_false, Bool.true_eq_false]
  rw [hv, ansV_err]
  have hbg : ∀ F L nx, Con Tryz.prog 54 [strV out inn num seen asked ps] F L nx (nx + 5) (.tup [.ptr ⟨L, nx⟩ 0 0, .int .i64 0]) (stU L nx out inn asked num seen ps) [] := fun F L nx => begin_ok out inn asked num seen hS ps hP hD
  simp only [strV, stU] at hbg
  refine bdy Tryz.f60 ?_
  intro F3 hF1 hF2
  simp only [Tryz.f60, cx, StX.v, strV, Dat.row, go_sem, meths]
  refine CallVC.same (hbg _ _ _) ?_
  simp only [f0, go_sem]
  repeat refine sd2 ?_
  refine CallVC.same (piece_ok d) ?_
  rw [hk]
  simp only [f1, hlo, List.length_map, go_sem]
  repeat refine sd2 ?_
  refine CallVC.same (containsFuncD_ok ps 100 [] [.ptr ⟨L + 1, 32⟩ 0 0] (fun y => y.tsn == d.tsn) [⟨L + 1, 32⟩] (by simp) (by omega) (fun x hx L' nx' hL => take1_ok x ⟨L + 1, 32⟩ hL 32 true true d (by simp [Dat.row, hlo]))) ?_
  rw [show (ps.any fun y => y.tsn == d.tsn) = ps.any (tsnB d.tsn) from rfl]
  rw [hda]
  simp only [r1, eI, List.length_map, go_sem]
  repeat refine sd2 ?_
  refine CallVC.same (lead16_ok d.sq (inn.getD d.st.toNat 0) hok.2.2.2.2.1 hok.2.2.2.2.2.1 hin.1 hin.2) ?_
  simp only [f2, g4, List.length_map, go_sem]
  repeat refine sd2 ?_
  refine ⟨okDyn_num (fun x => x.i) (by kernel_rfl), ?_⟩
  repeat refine sd2 ?_
  exact PostF.rs (v0 := .tup [.agg [.nilS, .nilS, .nilS, .int .i64 0, .int .i64 0, .nilS], .nilS, .int .i64 3]) (.inr rfl)
theorem refTakeAll_ok {F : SF} {L nx : Nat} (s : StX) (hs : s.Le 1000) (d : Dat) : Con Tryz.prog 23 [s.v, .agg d.row] F L nx nx (ansV (takeR s d)) [] [] := by
 obtain ⟨out, inn, ps, num, seen, asked⟩ := s
 obtain ⟨ho, hi, hpl, ha2⟩ := hs
 simp only at ho hi hpl ha2
 replace ho : out.length ≤ 1000000 := by omega
 replace hi : inn.length ≤ 1000000 := by omega
 replace ha2 : asked.length ≤ 1000000 := by omega
 have hp1000 := hpl
 replace hpl : ps.length ≤ 1000000 := by omega
 cases hc : chkB out inn num seen asked ps with
 | false =>
  have hv : takeR ⟨out, inn, ps, num, seen, asked⟩ d = (StX.z, [], 350) := by simp only [takeR, StX.chk, hc, if_true]
  rw [hv, ansV_err]
  have hri := fun F L nx => right_ok (F := F) (L := L) (nx := nx) out inn asked num seen ps ho hi ha2 hpl
  rw [hc] at hri
  simp only [strV] at hri
  refine bdy Tryz.f23 ?_
  intro F3 hF1 hF2
  simp only [Tryz.f23, cx, StX.v, strV, Dat.row, go_sem, meths]
  refine CallVC.same (hri _ _ _) ?_
  simp only [go_sem]
  repeat refine sd2 ?_
  exact PostF.rs (v0 := .tup [.agg [.nilS, .nilS, .nilS, .int .i64 0, .int .i64 0, .nilS], .nilS, .int .i64 350]) (.inr rfl)
 | true =>
 obtain ⟨hS, hP, hD⟩ := chkB_ok hc ha2
 have hp80 := hP.len
 have ho2 := hS.o2
 have hi2 := hS.i2
 cases hk : d.ok with
 | false =>
  have hv : takeR ⟨out, inn, ps, num, seen, asked⟩ d = (StX.z, [], 320) := by simp only [takeR, StX.chk, hc, hk, if_true, if_false, Bool.true_eq_false]
  rw [hv, ansV_err]
  have hri := fun F L nx => right_ok (F := F) (L := L) (nx := nx) out inn asked num seen ps ho hi ha2 hpl
  rw [hc] at hri
  simp only [strV] at hri
  have hrd := fun F L nx => rightData_ok (F := F) (L := L) (nx := nx) d
  simp only [Dat.row] at hrd
  refine bdy Tryz.f23 ?_
  intro F3 hF1 hF2
  simp only [Tryz.f23, cx, StX.v, strV, Dat.row, go_sem, meths]
  refine CallVC.same (hri _ _ _) ?_
  simp only [go_sem]
  repeat refine sd2 ?_
  refine CallVC.same (hrd _ _ _) ?_
  rw [hk]
  simp only [go_sem]
  repeat refine sd2 ?_
  exact PostF.rs (v0 := .tup [.agg [.nilS, .nilS, .nilS, .int .i64 0, .int .i64 0, .nilS], .nilS, .int .i64 320]) (.inr rfl)
 | true =>
 by_cases hst : (inn.length : Int) ≤ d.st
 ·have f1 : decide ((inn.length : Int) ≤ d.st) = true := dT hst
  have hv : takeR ⟨out, inn, ps, num, seen, asked⟩ d = (StX.z, [], 2) := by simp only [takeR, StX.chk, hc, hk, hst, if_true, if_false, Bool.true_eq_false]
  rw [hv, ansV_err]
  have hri := fun F L nx => right_ok (F := F) (L := L) (nx := nx) out inn asked num seen ps ho hi ha2 hpl
  rw [hc] at hri
  simp only [strV] at hri
  have hrd := fun F L nx => rightData_ok (F := F) (L := L) (nx := nx) d
  simp only [Dat.row] at hrd
  refine bdy Tryz.f23 ?_
  intro F3 hF1 hF2
  simp only [Tryz.f23, cx, StX.v, strV, Dat.row, go_sem, meths]
  refine CallVC.same (hri _ _ _) ?_
  simp only [go_sem]
  repeat refine sd2 ?_
  refine CallVC.same (hrd _ _ _) ?_
  rw [hk]
  simp only [f1, List.length_map, go_sem]
  repeat refine sd2 ?_
  exact PostF.rs (v0 := .tup [.agg [.nilS, .nilS, .nilS, .int .i64 0, .int .i64 0, .nilS], .nilS, .int .i64 2]) (.inr rfl)
 have f1 : decide ((inn.length : Int) ≤ d.st) = false := dF hst
 have hok := Dat.ok_bounds hk
 have r1 := getD_eI inn (i := d.st.toNat) (by omega)
 have hin := serB16_at hS.i3 (k := d.st.toNat) (by omega)
 by_cases hl : ps.length < 80
 ·have hv : takeR ⟨out, inn, ps, num, seen, asked⟩ d = (⟨out, (takeG inn ps d).1, (takeG inn ps d).2.1, num, seen, asked⟩, (takeG inn ps d).2.2, 0) := by
   have h8 : ¬ 80 ≤ ps.length := by omega
   cases hn : nopB inn ps d with
   | true => simp only [takeR, StX.chk, hc, hk, hst, hn, if_true, if_false, Bool.true_eq_false, takeG_nop hn]
   | false => simp only [takeR, StX.chk, hc, hk, hst, hn, h8, if_false, Bool.true_eq_false, Bool.false_eq_true]
  rw [hv]
  exact refTakeG_ok out inn asked num seen hS ps hP hD d hk (by omega) hl
 have f2 : decide ((80 : Int) ≤ (ps.length : Int)) = true := dT (by omega)
 have hany := idxI_any (tsnB d.tsn) ps
 cases hda : ps.any (tsnB d.tsn) with
 | true =>
  have hv : takeR ⟨out, inn, ps, num, seen, asked⟩ d = (⟨out, inn, ps, num, seen, asked⟩, [], 0) := by simp only [takeR, StX.chk, hc, hk, hst, nopB, hda, Bool.true_or, if_true, if_false, Bool.true_eq_false]
  rw [hv, ansV_ok]
  rw [hda] at hany
  have hri := fun F L nx => right_ok (F := F) (L := L) (nx := nx) out inn asked num seen ps ho hi ha2 hpl
  rw [hc] at hri
  simp only [strV] at hri
  have hrd := fun F L nx => rightData_ok (F := F) (L := L) (nx := nx) d
  simp only [Dat.row] at hrd
  refine bdy Tryz.f23 ?_
  intro F3 hF1 hF2
  simp only [Tryz.f23, cx, StX.v, strV, Dat.row, go_sem, meths]
  refine CallVC.same (hri _ _ _) ?_
  simp only [go_sem]
  repeat refine sd2 ?_
  refine CallVC.same (hrd _ _ _) ?_
  rw [hk]
  simp only [f1, List.length_map, Nat.add_zero, go_sem]
  repeat refine sd2 ?_
  refine CallVC.same (rAt_ok ps d.tsn (by omega)) ?_
  simp only [hany, go_sem]
  repeat refine sd2 ?_
  refine ⟨okDyn_num (fun x => x.i) (by kernel_rfl), ?_⟩
  repeat refine sd2 ?_
  exact PostF.rs (v0 := .tup [.agg [.fs 1 (out.map eI), .fs 1 (inn.map eI), .fs 8 (ps.map Dat.row), .int .i64 num, .int .i64 seen, .fs 1 (asked.map eI)], .nilS, .int .i64 0]) (.inr rfl)
 | false =>
 rw [hda] at hany
 cases hlo : d.lo with
 | true =>
  have hv : takeR ⟨out, inn, ps, num, seen, asked⟩ d = (StX.z, [], 3) := by simp only [takeR, StX.chk, hc, hk, hst, nopB, hda, hlo, show 80 ≤ ps.length by omega, Bool.false_or, Bool.not_true, Bool.false_and, Bool.false_eq_true, if_true, if_false, Bool.true_eq_false]
  rw [hv, ansV_err]
  have hri := fun F L nx => right_ok (F := F) (L := L) (nx := nx) out inn asked num seen ps ho hi ha2 hpl
  rw [hc] at hri
  simp only [strV] at hri
  have hrd := fun F L nx => rightData_ok (F := F) (L := L) (nx := nx) d
  simp only [Dat.row] at hrd
  refine bdy Tryz.f23 ?_
  intro F3 hF1 hF2
  simp only [Tryz.f23, cx, StX.v, strV, Dat.row, go_sem, meths]
  refine CallVC.same (hri _ _ _) ?_
  simp only [go_sem]
  repeat refine sd2 ?_
  refine CallVC.same (hrd _ _ _) ?_
  rw [hk]
  simp only [f1, hlo, List.length_map, Nat.add_zero, go_sem]
  repeat refine sd2 ?_
  refine CallVC.same (rAt_ok ps d.tsn (by omega)) ?_
  simp only [hany, f2, List.length_map, go_sem]
  repeat refine sd2 ?_
  refine ⟨okDyn_num (fun x => x.i) (by kernel_rfl), ?_⟩
  repeat refine sd2 ?_
  exact PostF.rs (v0 := .tup [.agg [.nilS, .nilS, .nilS, .int .i64 0, .int .i64 0, .nilS], .nilS, .int .i64 3]) (.inr rfl)
 | false =>
 by_cases hld : lead d.sq (inn.getD d.st.toNat 0) 16 < 0
 ·have g4 : decide (lead d.sq (inn.getD d.st.toNat 0) 16 < 0) = true := dT hld
  have hv : takeR ⟨out, inn, ps, num, seen, asked⟩ d = (⟨out, inn, ps, num, seen, asked⟩, [], 0) := by simp only [takeR, StX.chk, hc, hk, hst, nopB, hda, hlo, g4, Bool.false_or, Bool.not_false, Bool.true_and, if_true, if_false, Bool.true_eq_false]
  rw [hv, ansV_ok]
  have hri := fun F L nx => right_ok (F := F) (L := L) (nx := nx) out inn asked num seen ps ho hi ha2 hpl
  rw [hc] at hri
  simp only [strV] at hri
  have hrd := fun F L nx => rightData_ok (F := F) (L := L) (nx := nx) d
  simp only [Dat.row] at hrd
  refine bdy Tryz.f23 ?_
  intro F3 hF1 hF2
  simp only [Tryz.f23, cx, StX.v, strV, Dat.row, go_sem, meths]
  refine CallVC.same (hri _ _ _) ?_
  simp only [go_sem]
  repeat refine sd2 ?_
  refine CallVC.same (hrd _ _ _) ?_
  rw [hk]
  simp only [f1, hlo, List.length_map, Nat.add_zero, go_sem]
  repeat refine sd2 ?_
  refine CallVC.same (rAt_ok ps d.tsn (by omega)) ?_
  simp only [hany, r1, eI, List.length_map, go_sem]
  repeat refine sd2 ?_
  refine CallVC.same (rLead16_ok d.sq (inn.getD d.st.toNat 0) hok.2.2.2.2.1 hok.2.2.2.2.2.1 hin.1 hin.2) ?_
  simp only [g4, go_sem]
  repeat refine sd2 ?_
  refine ⟨okDyn_num (fun x => x.i) (by kernel_rfl), ?_⟩
  repeat refine sd2 ?_
  exact PostF.rs (v0 := .tup [.agg [.fs 1 (out.map eI), .fs 1 (inn.map eI), .fs 8 (ps.map Dat.row), .int .i64 num, .int .i64 seen, .fs 1 (asked.map eI)], .nilS, .int .i64 0]) (.inr rfl)
 ·have g4 : decide (lead d.sq (inn.getD d.st.toNat 0) 16 < 0) = false := dF hld
  have hv : takeR ⟨out, inn, ps, num, seen, asked⟩ d = (StX.z, [], 3) := by simp only [takeR, StX.chk, hc, hk, hst, nopB, hda, hlo, g4, show 80 ≤ ps.length by omega, Bool.false_or, Bool.not_false, Bool.true_and, Bool.false_eq_true, if_true, if_false, Bool.true_eq_false]
  rw [hv, ansV_err]
  have hri := fun F L nx => right_ok (F := F) (L := L) (nx := nx) out inn asked num seen ps ho hi ha2 hpl
  rw [hc] at hri
  simp only [strV] at hri
  have hrd := fun F L nx => rightData_ok (F := F) (L := L) (nx := nx) d
  simp only [Dat.row] at hrd
  refine bdy Tryz.f23 ?_
  intro F3 hF1 hF2
  simp only [Tryz.f23, cx, StX.v, strV, Dat.row, go_sem, meths]
  refine CallVC.same (hri _ _ _) ?_
  simp only [go_sem]
  repeat refine sd2 ?_
  refine CallVC.same (hrd _ _ _) ?_
  rw [hk]
  simp only [f1, hlo, List.length_map, Nat.add_zero, go_sem]
  repeat refine sd2 ?_
  refine CallVC.same (rAt_ok ps d.tsn (by omega)) ?_
  simp only [hany, r1, eI, List.length_map, go_sem]
  repeat refine sd2 ?_
  refine CallVC.same (rLead16_ok d.sq (inn.getD d.st.toNat 0) hok.2.2.2.2.1 hok.2.2.2.2.2.1 hin.1 hin.2) ?_
  simp only [f2, g4, List.length_map, go_sem]
  repeat refine sd2 ?_
  refine ⟨okDyn_num (fun x => x.i) (by kernel_rfl), ?_⟩
  repeat refine sd2 ?_
  exact PostF.rs (v0 := .tup [.agg [.nilS, .nilS, .nilS, .int .i64 0, .int .i64 0, .nilS], .nilS, .int .i64 3]) (.inr rfl)
theorem rightForward_ok {F : SF} {L nx : Nat} (cum : Int) (sk : List (Int × Int)) (hlen : sk.length ≤ 1000000) : Con Tryz.prog 102 [fwdP cum sk] F L nx nx (.bool (fwdV cum sk)) [] [] := by
 refine bdy Tryz.f102 ?_
 intro F3 hF1 hF2
 simp only [Tryz.f102, cx, fwdP, go_sem, meths]
 refine loopK.intro _ _ (I := fun i : Nat => ⟨[none, some (.ptr ⟨L + 1, 0⟩ 0 0), none, some (.int .i64 i), none, none, none, none, none, none, none, none, none, none, none, none, none, none, none, none, none, none, none, none, none, none, none, none, none, none, none, none, none, none, none, none, none, none, none, none, none, none, none, none, none, none, none, none, none, none, none, none, none, none, none, none, none, none, none, none, none, none],
  [(⟨L + 1, 0⟩, .rows 63 2 true true [[.int .i64 cum, .fs 2 (sk.map kE)]])], 10000 * (i + 1)⟩) (pre := fun i => i ≤ sk.length ∧ i ≤ 31 ∧ ∀ j, j < i → okSk sk j = true) (μ := fun i => sk.length - i) 0 ⟨by omega, by omega, by intro j h; omega⟩ ?_ ?_
 ·refine Sub.of (hfz hF2) (by simp only [go_sem, subT, and_self, Int.natCast_zero]) ?_ (by simp [subK, keys]) (by simp)
  simp [subH, Tx.look]
 ·rintro i ⟨hi, hi31, hp⟩
  have no : i < sk.length → okSk sk i = false → fwdV cum sk = false := by
   intro hl h
   unfold fwdV
   rw [Bool.and_eq_false_iff]
   left
   rw [List.all_eq_false]
   exact ⟨i, by simpa using hl, by simp [h]⟩
  have yes : okSk sk i = true → ∀ j, j < i + 1 → okSk sk j = true := by
   intro h j hj
   by_cases he : j = i
   ·subst he; exact h
   ·exact hp j (by omega)
  have fin : (i = sk.length ∨ i = 31) → fwdV cum sk = (serB 32 cum && decide ((sk.length : Int) ≤ 30)) := by
   intro h
   rw [show decide ((sk.length : Int) ≤ 30) = decide (sk.length ≤ 30) by rw [Bool.eq_iff_iff]; simp; omega]
   by_cases h30 : sk.length ≤ 30
   ·have : (List.range sk.length).all (okSk sk) = true := by
     rw [List.all_eq_true]
     intro j hj
     exact hp j (by have := List.mem_range.1 hj; omega)
    unfold fwdV
    rw [this, Bool.true_and]
   ·unfold fwdV
    simp [h30]
  by_cases hlt : i < sk.length
  ·have f1 : decide ((i : Int) < (sk.length : Int)) = true := dT (by omega)
   by_cases h31 : i < 31
   ·have f2 : decide ((i : Int) < 31) = true := dT (by omega)
    have r0 := rowK hlt
    obtain ⟨k, hk⟩ : ∃ k, k = sk.getD i (0, 0) := ⟨_, rfl⟩
    rw [← hk] at r0
    simp only [f1, f2, r0, kE, Int.toNat_natCast, Nat.add_assoc, List.length_map, Nat.add_zero, go_sem]
    repeat refine sd2 ?_
    refine CallVC.same (short32_ok k.1) ?_
    cases h1 : serB 16 k.1 with
    | false =>
     rw [no hlt (by unfold okSk; rw [← hk, h1]; rfl)]
     simp only [Nat.add_assoc, go_sem]
     repeat refine sd2 ?_
     refine ⟨okDyn_num (fun x => x.i % 10000) (by simp only [numF, List.map, Nat.reduceMod]; kernel_rfl), ?_⟩
     repeat refine sd2 ?_
     exact .bool (.inr rfl) rfl rfl (by simp [UpdAll])
    | true =>
    simp only [r0, kE, Int.toNat_natCast, Nat.add_assoc, List.length_map, go_sem]
    repeat refine sd2 ?_
    refine CallVC.same (short32_ok k.2) ?_
    cases h2 : serB 16 k.2 with
    | false =>
     rw [no hlt (by unfold okSk; rw [← hk, h1, h2]; rfl)]
     simp only [Nat.add_assoc, go_sem]
     repeat refine sd2 ?_
     refine ⟨okDyn_num (fun x => x.i % 10000) (by simp only [numF, List.map, Nat.reduceMod]; kernel_rfl), ?_⟩
     repeat refine sd2 ?_
     exact .bool (.inr rfl) rfl rfl (by simp [UpdAll])
    | true =>
    by_cases h3 : i = 0
    ·have f3 : decide ((0 : Int) < (i : Int)) = false := dF (by omega)
     simp only [f3, Nat.add_assoc, go_sem]
     repeat refine sd2 ?_
     refine ⟨okDyn_num (fun x => x.i % 10000) (by simp only [numF, List.map, Nat.reduceMod]; kernel_rfl), ?_⟩
     repeat refine sd2 ?_
     refine ⟨i + 1, ⟨by omega, by omega, yes (by unfold okSk; rw [← hk, h1, h2, h3]; rfl)⟩, by omega, ?_⟩
     refine Sub.o hF2 ?_
     simp [subH, Tx.look]
    ·have f3 : decide ((0 : Int) < (i : Int)) = true := dT (by omega)
     have e1 : ((i : Int) - 1).toNat = i - 1 := by omega
     have r1 := rowK (sk := sk) (i := i - 1) (by omega)
     obtain ⟨k', hk'⟩ : ∃ k, k = sk.getD (i - 1) (0, 0) := ⟨_, rfl⟩
     rw [← hk'] at r1
     have hz : (i == 0) = false := by simp; omega
     by_cases h4 : k.1 ≤ k'.1
     ·have f4 : decide (k.1 ≤ k'.1) = true := dT h4
      rw [no hlt (by unfold okSk; rw [← hk, ← hk', h1, h2, hz]; simp; omega)]
      simp only [f3, f4, e1, r0, r1, kE, Int.toNat_natCast, Nat.add_assoc, List.length_map, Nat.add_zero, go_sem]
      repeat refine sd2 ?_
      refine ⟨okDyn_num (fun x => x.i % 10000) (by simp only [numF, List.map, Nat.reduceMod]; kernel_rfl), ?_⟩
      repeat refine sd2 ?_
      exact .bool (.inr rfl) rfl rfl (by simp [UpdAll])
     ·have f4 : decide (k.1 ≤ k'.1) = false := dF h4
      simp only [f3, f4, e1, r0, r1, kE, Int.toNat_natCast, Nat.add_assoc, List.length_map, Nat.add_zero, go_sem]
      repeat refine sd2 ?_
      refine ⟨okDyn_num (fun x => x.i % 10000) (by simp only [numF, List.map, Nat.reduceMod]; kernel_rfl), ?_⟩
      repeat refine sd2 ?_
      refine ⟨i + 1, ⟨by omega, by omega, yes (by unfold okSk; rw [← hk, ← hk', h1, h2, hz]; simp; omega)⟩, by omega, ?_⟩
      refine Sub.o hF2 ?_
      simp [subH, Tx.look]
   ·have f2 : decide ((i : Int) < 31) = false := dF (by omega)
    rw [fin (.inr (by omega))]
    simp only [f1, f2, Nat.add_assoc, List.length_map, Nat.add_zero, go_sem]
    repeat refine sd2 ?_
    refine CallVC.same (wide32_ok cum) ?_
    cases h5 : serB 32 cum with
    | false =>
     simp only [Nat.add_assoc, go_sem]
     exact .bool (.inr rfl) rfl rfl (by simp [UpdAll])
    | true =>
     simp only [Nat.add_assoc, List.length_map, go_sem]
     exact .bool (.inr rfl) rfl rfl (by simp [UpdAll])
  ·have f1 : decide ((i : Int) < (sk.length : Int)) = false := dF (by omega)
   rw [fin (.inl (by omega))]
   simp only [f1, Nat.add_assoc, List.length_map, Nat.add_zero, go_sem]
   repeat refine sd2 ?_
   refine CallVC.same (wide32_ok cum) ?_
   cases h5 : serB 32 cum with
   | false =>
    simp only [Nat.add_assoc, go_sem]
    exact .bool (.inr rfl) rfl rfl (by simp [UpdAll])
   | true =>
    simp only [Nat.add_assoc, List.length_map, go_sem]
    exact .bool (.inr rfl) rfl rfl (by simp [UpdAll])
def rcS (ps : List Dat) (cum : Int) (f : Dat) : Nat → Dat → List Int → Option (List Int)
 | 0, _, _ => none
 | k + 1, d, ns =>
  if d.la || (decide (0 < ns.length) && d.fi) || d.st != f.st || d.sq != f.sq || d.lo != f.lo then none
  else if d.tsn == cum then some (ns ++ [d.tsn])
  else match getT ps ((d.tsn + 1) % 4294967296) with
   | none => none
   | some d' => rcS ps cum f k d' (ns ++ [d.tsn])
def rcF (ps : List Dat) (cum : Int) (f : Dat) : Option (List Int) := if f.fi then rcS ps cum f (ps.length + 1) f [] else none
def rcut (ps : List Dat) (cum : Int) : Option (List Int) := ps.findSome? (rcF ps cum)
def bT (cum : Int) (i : Nat) : Int := (cum - (i : Int)) % 4294967296
def sameD (e f : Dat) : Prop := e.st = f.st ∧ e.sq = f.sq ∧ e.lo = f.lo
structure Bk (ps : List Dat) (cum : Int) (n : Nat) (f : Dat) : Prop where
 top : getT ps (bT cum n) = some f
 on : ∀ i, i ≤ n → ∃ e, getT ps (bT cum i) = some e ∧ e.la = false ∧ e.fi = decide (i = n) ∧ sameD e f
theorem bT_succ (cum : Int) (j : Nat) : (bT cum j - 1) % 4294967296 = bT cum (j + 1) := by unfold bT; omega
theorem bT_ne {cum : Int} {i j : Nat} (h : i < j) (hj : j < 1000) : bT cum i ≠ bT cum j := by unfold bT; omega
theorem cutS_spec (ps : List Dat) (cum : Int) : ∀ (k j : Nat) (b : Dat) (ns : List Int), ns = (List.range j).map (bT cum) →
  cutS ps k (bT cum j) b ns = [] ∨ ∃ n f, j ≤ n ∧ cutS ps k (bT cum j) b ns = (List.range (n + 1)).map (bT cum) ∧ getT ps (bT cum n) = some f ∧
   (∀ i, j ≤ i → i ≤ n → ∃ e, getT ps (bT cum i) = some e ∧ e.la = false ∧ e.fi = decide (i = n) ∧ sameD e f) ∧ (0 < j → sameD b f)
 | 0, _, _, _, _ => .inl rfl
 | k + 1, j, b, ns, hns => by
  have hl : ns.length = j := by rw [hns]; simp
  rw [cutS]
  cases hg : getT ps (bT cum j) with
  | none => exact .inl rfl
  | some d =>
   simp only
   split
   ·exact .inl rfl
   ·rename_i h1
    split
    ·exact .inl rfl
    ·rename_i h2
     simp only [Bool.or_eq_true, not_or, Bool.not_eq_true] at h1
     have hsame : 0 < j → sameD d b := by
      intro hj
      simp only [hl, hj, decide_true, Bool.true_and, Bool.or_eq_true, bne_iff_ne, ne_eq, not_or, Decidable.not_not] at h2
      exact ⟨h2.1.1, h2.1.2, h2.2⟩
     have hns2 : ns ++ [bT cum j] = (List.range (j + 1)).map (bT cum) := by rw [hns, List.range_succ]; simp
     split
     ·rename_i h3
      refine .inr ⟨j, d, Nat.le_refl _, hns2, hg, fun i hi hi2 => ?_, fun hj => ?_⟩
      ·have : i = j := by omega
       subst this
       exact ⟨d, hg, h1.1, by simp [h3], rfl, rfl, rfl⟩
      ·obtain ⟨a, b', c⟩ := hsame hj; exact ⟨a.symm, b'.symm, c.symm⟩
     ·rename_i h3
      rw [bT_succ]
      rcases cutS_spec ps cum k (j + 1) d (ns ++ [bT cum j]) hns2 with h | ⟨n, f, hn, he, hf, ha, hs⟩
      ·exact .inl h
      ·refine .inr ⟨n, f, by omega, he, hf, fun i hi hi2 => ?_, fun hj => ?_⟩
       ·by_cases hij : i = j
        ·subst hij
         exact ⟨d, hg, h1.1, by rw [Bool.not_eq_true] at h3; rw [h3]; symm; simp; omega, hs (by omega)⟩
        ·exact ha i (by omega) hi2
       ·obtain ⟨a, b', c⟩ := hsame hj
        obtain ⟨a2, b2, c2⟩ := hs (by omega)
        exact ⟨a.symm.trans a2, b'.symm.trans b2, c.symm.trans c2⟩
theorem cutS_of {ps : List Dat} {cum : Int} {n : Nat} {f : Dat} (h : Bk ps cum n f) (hn : n < 1000) : ∀ (k j : Nat) (b : Dat) (ns : List Int), ns = (List.range j).map (bT cum) → j ≤ n → n < k + j → (0 < j → sameD b f) →
  cutS ps k (bT cum j) b ns = (List.range (n + 1)).map (bT cum)
 | 0, j, _, _, _, h1, h2, _ => by omega
 | k + 1, j, b, ns, hns, hj, hk, hb => by
  have hl : ns.length = j := by rw [hns]; simp
  obtain ⟨e, he, hla, hfi, hs⟩ := h.on j hj
  have hct : ns.contains (bT cum j) = false := by
   rw [Bool.eq_false_iff, ne_eq, List.contains_iff_mem, hns]
   intro hm
   obtain ⟨i, hi, h2⟩ := List.mem_map.1 hm
   exact bT_ne (List.mem_range.1 hi) (by omega) h2
  have hat : (decide (0 < ns.length) && (e.st != b.st || e.sq != b.sq || e.lo != b.lo)) = false := by
   rw [hl]
   by_cases h0 : 0 < j
   ·obtain ⟨a1, a2, a3⟩ := hb h0
    obtain ⟨b1, b2, b3⟩ := hs
    simp [a1, a2, a3, b1, b2, b3]
   ·simp [h0]
  have hns2 : ns ++ [bT cum j] = (List.range (j + 1)).map (bT cum) := by rw [hns, List.range_succ]; simp
  rw [cutS, he]
  simp only [hla, hct, Bool.or_false, Bool.false_eq_true, if_false, hat]
  by_cases hjn : j = n
  ·rw [hfi]
   simp only [hjn, decide_true, if_true]
   rw [← hjn]; exact hns2
  ·rw [hfi]
   simp only [hjn, decide_false, Bool.false_eq_true, if_false]
   rw [bT_succ]
   exact cutS_of h hn k (j + 1) e _ hns2 (by omega) (by omega) (fun _ => hs)
theorem rcS_spec (ps : List Dat) (cum : Int) (f : Dat) (hok : ∀ d ∈ ps, 0 ≤ d.tsn ∧ d.tsn < 4294967296) : ∀ (k : Nat) (d : Dat) (ns l : List Int), getT ps d.tsn = some d → rcS ps cum f k d ns = some l →
  ∃ m : Nat, (d.tsn + (m : Int)) % 4294967296 = cum ∧ l = ns ++ (List.range (m + 1)).map (fun i : Nat => (d.tsn + (i : Int)) % 4294967296) ∧
   ∀ i, i ≤ m → ∃ e, getT ps ((d.tsn + (i : Int)) % 4294967296) = some e ∧ e.la = false ∧ sameD e f ∧ (0 < ns.length + i → e.fi = false)
 | 0, _, _, _, _, h => by simp [rcS] at h
 | k + 1, d, ns, l, hd, h => by
  obtain ⟨o1, o2⟩ := hok d (getT_mem hd).1
  have e0 : (d.tsn + ((0 : Nat) : Int)) % 4294967296 = d.tsn := by omega
  rw [rcS] at h
  split at h
  ·cases h
  ·rename_i h1
   simp only [Bool.or_eq_true, not_or, Bool.not_eq_true, bne_iff_ne, ne_eq, Decidable.not_not, Bool.and_eq_true, decide_eq_true_eq, not_and] at h1
   obtain ⟨⟨⟨⟨c1, c2⟩, c3⟩, c4⟩, c5⟩ := h1
   have c2' : 0 < ns.length → d.fi = false := by simpa using c2
   split at h
   ·rename_i h2
    injection h with h
    have h2 := beq_iff_eq.1 h2
    refine ⟨0, by omega, by rw [← h]; show _ = ns ++ [(d.tsn + ((0 : Nat) : Int)) % 4294967296]; rw [e0], fun i hi => ?_⟩
    have : i = 0 := by omega
    subst this
    rw [e0]
    exact ⟨d, hd, c1, ⟨c3, c4, c5⟩, fun hh => c2' (by omega)⟩
   ·split at h
    ·cases h
    ·rename_i d' hg
     have ht := (getT_mem hg).2
     have hd' : getT ps d'.tsn = some d' := by rw [ht]; exact hg
     obtain ⟨m, q1, q2, q3⟩ := rcS_spec ps cum f hok k d' _ l hd' h
     rw [ht] at q1 q2 q3
     have es : ∀ i : Nat, ((d.tsn + 1) % 4294967296 + (i : Int)) % 4294967296 = (d.tsn + ((i + 1 : Nat) : Int)) % 4294967296 := by intro i; omega
     refine ⟨m + 1, by rw [← es]; exact q1, ?_, fun i hi => ?_⟩
     ·rw [q2, List.append_assoc]
      congr 1
      rw [List.range_succ_eq_map (n := m + 1), List.map_cons, List.map_map, List.singleton_append]
      congr 1
      ·omega
      ·apply List.map_congr_left
       intro i _
       exact es i
     ·cases i with
      | zero =>
       rw [e0]
       exact ⟨d, hd, c1, ⟨c3, c4, c5⟩, fun hh => c2' (by omega)⟩
      | succ i =>
       obtain ⟨e, r1, r2, r3, r4⟩ := q3 i (by omega)
       rw [es] at r1
       exact ⟨e, r1, r2, r3, fun _ => r4 (by simp only [List.length_append, List.length_cons, List.length_nil]; omega)⟩
theorem rcS_of {ps : List Dat} {cum : Int} {n : Nat} {f : Dat} (h : Bk ps cum n f) (hc : 0 ≤ cum ∧ cum < 4294967296) : ∀ (r k : Nat) (d : Dat) (ns : List Int), getT ps (bT cum r) = some d → r ≤ n → r < k → ns.length = n - r → rcS ps cum f k d ns ≠ none
 | _, 0, _, _, _, _, h2, _ => by omega
 | r, k + 1, d, ns, hd, hr, hk, hl => by
  obtain ⟨e, he, hla, hfi, hs⟩ := h.on r hr
  rw [hd] at he
  injection he with he
  subst he
  obtain ⟨a1, a2, a3⟩ := hs
  have ht := (getT_mem hd).2
  have hcond : (d.la || (decide (0 < ns.length) && d.fi) || d.st != f.st || d.sq != f.sq || d.lo != f.lo) = false := by
   have : (decide (0 < ns.length) && d.fi) = false := by
    by_cases hrn : r = n
    ·have : ¬ 0 < ns.length := by omega
     simp [this]
    ·rw [hfi]; simp [hrn]
   simp [hla, this, a1, a2, a3]
  rw [rcS, hcond]
  simp only [Bool.false_eq_true, if_false]
  split
  ·simp
  ·rename_i h2
   cases r with
   | zero =>
    exfalso
    apply h2
    rw [beq_iff_eq, ht]
    unfold bT; omega
   | succ r =>
    obtain ⟨e2, he2, _⟩ := h.on r (by omega)
    have e1 : (d.tsn + 1) % 4294967296 = bT cum r := by rw [ht]; unfold bT; omega
    rw [e1, he2]
    exact rcS_of h hc r k e2 _ he2 (by omega) (by omega) (by simp; omega)
theorem Bk.lt {ps : List Dat} {cum : Int} {n : Nat} {f : Dat} (h : Bk ps cum n f) (hl : ps.length ≤ 80) : n < ps.length := by
 refine Nat.lt_of_not_le fun hn => ?_
 have hnd : ((List.range (ps.length + 1)).map (bT cum)).Nodup := by
  rw [List.nodup_iff_pairwise_ne, List.pairwise_map]
  refine List.Pairwise.imp_of_mem ?_ List.pairwise_lt_range
  intro a b _ hb hab
  exact bT_ne hab (by have := List.mem_range.1 hb; omega)
 have hs : ∀ x ∈ (List.range (ps.length + 1)).map (bT cum), x ∈ ps.map Dat.tsn := by
  intro x hx
  obtain ⟨i, hi, rfl⟩ := List.mem_map.1 hx
  obtain ⟨e, he, _⟩ := h.on i (by have := List.mem_range.1 hi; omega)
  obtain ⟨g1, g2⟩ := getT_mem he
  exact List.mem_map.2 ⟨e, g1, g2⟩
 have := nodup_sub hnd hs
 simp only [List.length_map, List.length_range] at this
 omega
theorem rcut_spec {ps : List Dat} {cum : Int} (hnd : (ps.map Dat.tsn).Nodup) (hok : ∀ d ∈ ps, 0 ≤ d.tsn ∧ d.tsn < 4294967296) {l : List Int} (h : rcut ps cum = some l) :
  ∃ n f, Bk ps cum n f ∧ ∀ x, x ∈ l ↔ x ∈ (List.range (n + 1)).map (bT cum) := by
 unfold rcut at h
 obtain ⟨f, hf, h1⟩ := List.exists_of_findSome?_eq_some h
 unfold rcF at h1
 split at h1
 ·rename_i hfi
  have hs := getT_self hnd hf
  obtain ⟨m, q1, q2, q3⟩ := rcS_spec ps cum f hok _ f [] l hs h1
  obtain ⟨o1, o2⟩ := hok f hf
  have eb : ∀ i, i ≤ m → bT cum i = (f.tsn + ((m - i : Nat) : Int)) % 4294967296 := by
   intro i hi; unfold bT; omega
  have et : bT cum m = f.tsn := by rw [eb m (Nat.le_refl _)]; omega
  refine ⟨m, f, ⟨by rw [et]; exact hs, fun i hi => ?_⟩, fun x => ?_⟩
  ·obtain ⟨e, r1, r2, r3, r4⟩ := q3 (m - i) (by omega)
   rw [← eb i hi] at r1
   refine ⟨e, r1, r2, ?_, r3⟩
   by_cases him : i = m
   ·subst him
    rw [et, hs] at r1
    injection r1 with r1
    rw [← r1, hfi]; simp
   ·rw [r4 (by simp; omega)]; symm; simp [him]
  ·rw [q2, List.nil_append]
   constructor
   ·intro hx
    obtain ⟨i, hi, rfl⟩ := List.mem_map.1 hx
    have hi := List.mem_range.1 hi
    refine List.mem_map.2 ⟨m - i, List.mem_range.2 (by omega), ?_⟩
    rw [eb _ (by omega)]
    rw [show m - (m - i) = i by omega]
   ·intro hx
    obtain ⟨i, hi, rfl⟩ := List.mem_map.1 hx
    have hi := List.mem_range.1 hi
    exact List.mem_map.2 ⟨m - i, List.mem_range.2 (by omega), (eb i (by omega)).symm⟩
 ·cases h1
theorem kept_iff {ps : List Dat} {cum : Int} (hl : ps.length ≤ 80) (hnd : (ps.map Dat.tsn).Nodup) (hok : ∀ d ∈ ps, 0 ≤ d.tsn ∧ d.tsn < 4294967296) (hc : 0 ≤ cum ∧ cum < 4294967296) (x : Int) :
  ((rcut ps cum).getD []).contains x = (cutG ps cum).contains x := by
 have e0 : cum = bT cum 0 := by unfold bT; omega
 have hcut : ∀ {n f}, Bk ps cum n f → cutG ps cum = (List.range (n + 1)).map (bT cum) := by
  intro n f h
  have hn := h.lt hl
  unfold cutG
  rw [e0, ← e0]
  have := cutS_of h (by omega) (ps.length + 1) 0 datZ [] rfl (by omega) (by omega) (by omega)
  rw [← e0] at this
  exact this
 rw [Bool.eq_iff_iff, List.contains_iff_mem, List.contains_iff_mem]
 cases hr : rcut ps cum with
 | some l =>
  obtain ⟨n, f, hB, hm⟩ := rcut_spec hnd hok hr
  rw [hcut hB, Option.getD_some]
  exact hm x
 | none =>
  rcases cutS_spec ps cum (ps.length + 1) 0 datZ [] rfl with h | ⟨n, f, _, he, hf, ha, _⟩
  ·rw [← e0] at h
   rw [show cutG ps cum = [] from h, Option.getD_none]
  ·exfalso
   have hB : Bk ps cum n f := ⟨hf, fun i hi => ha i (Nat.zero_le _) hi⟩
   have hn := hB.lt hl
   unfold rcut at hr
   rw [List.findSome?_eq_none_iff] at hr
   have h1 := hr f (getT_mem hf).1
   obtain ⟨e, he2, _, hfi, _⟩ := hB.on n (Nat.le_refl _)
   rw [hf] at he2
   injection he2 with he2
   subst he2
   unfold rcF at h1
   rw [hfi] at h1
   simp only [decide_true, if_true] at h1
   exact rcS_of hB hc n (ps.length + 1) f [] hf (Nat.le_refl _) (by omega) (by simp) h1
end Go.Proofs.YtfhhbkehlfipgaaGreat
end
