/- Lemmas for the walk: YC83, YC84. -/
import Derived.Test.YtfhhbkehlfipgaaP16
set_option linter.all false
section
namespace Go.Proofs.Ytfhhbkehlfipgaa
open Go.Tx
set_option maxRecDepth 100000
set_option maxHeartbeats 16000000
def ansA (r : StX × Int) : PV := .tup [r.1.v, .int .i64 r.2]
theorem ansA_err (n : Int) : ansA (StX.z, n) = .tup [.agg [.fs 1 [], .fs 1 [], .fs 8 [], .int .i64 0, .int .i64 0, .fs 1 []], .int .i64 n] := rfl
theorem ansA_ok (s : StX) (n : Int) : ansA (s, n) = .tup [.agg [.fs 1 (s.out.map eI), .fs 1 (s.inn.map eI), .fs 8 (s.ps.map Dat.row), .int .i64 s.num, .int .i64 s.seen, .fs 1 (s.asked.map eI)], .int .i64 n] := rfl
def answeredR (s : StX) (x : Rst) : StX × Int :=
 if s.chk = false then (StX.z, 350)
 else if x.ok = false then (StX.z, 2)
 else if x.k ≠ 2 then (StX.z, 2)
 else if s.asked.length = 0 then (StX.z, 8)
 else if x.n ≠ s.num then (StX.z, 10)
 else if x.r = 6 then (s, 0)
 else if x.r = 1 then ({ s with out := zeroAt s.out s.asked s.asked.length, num := (s.num + 1) % 4294967296, asked := [] }, 0)
 else ({ s with num := (s.num + 1) % 4294967296, asked := [] }, 0)
theorem zeroAt_0 (out l : List Int) : zeroAt out l 0 = out := rfl
theorem answeredAll_ok {F : SF} {L nx : Nat} (s : StX) (hs : s.Le 1000) (x : Rst) (hx : x.ss.length ≤ 1000) : Con Try.prog 17 [s.v, x.v] F L nx nx (ansA (answeredR s x)) [] [] := by
  obtain ⟨out, inn, ps, num, seen, asked⟩ := s
  obtain ⟨ho, hi, hpl, ha2⟩ := hs
  simp only at ho hi hpl ha2
  have f0 : ((0 : Int) != 0) = false := rfl
  cases hc : chkB out inn num seen asked ps with
  | false =>
    have hv : answeredR ⟨out, inn, ps, num, seen, asked⟩ x = (StX.z, 350) := by simp only [answeredR, StX.chk, hc, ne_eq, if_true]
    rw [hv, ansA_err]
    have hb := fun F L nx => begin_bad (F := F) (L := L) (nx := nx) out inn asked num seen ps (by omega) (by omega) (by omega) (by omega) hc
    simp only [strV] at hb
    refine bdy Try.f17 ?_
    intro F3 hF1 hF2
    simp only [Try.f17, cx, StX.v, Rst.v, rstP, strV, go_sem, meths]
    refine CallVC.same (hb _ _ _) ?_
    simp only [show ((350 : Int) != 0) = true from rfl, go_sem]
    repeat refine sd2 ?_
    exact PostF.rs (v0 := .tup [.agg [.nilS, .nilS, .nilS, .int .i64 0, .int .i64 0, .nilS], .int .i64 350]) (.inr rfl)
  | true =>
  obtain ⟨hS, hP, hD⟩ := chkB_ok hc (by omega)
  have hbg : ∀ F L nx, Con Try.prog 41 [strV out inn num seen asked ps] F L nx (nx + 5) (.tup [.ptr ⟨L, nx⟩ 0 0, .int .i64 0]) (stU L nx out inn asked num seen ps) [] := fun F L nx => begin_ok out inn asked num seen hS ps hP hD
  simp only [strV, stU] at hbg
  have hpr := fun F L nx => putReset_ok (F := F) (L := L) (nx := nx) x.k x.n x.la x.r x.ss (by omega)
  simp only [rstP] at hpr
  have f9 : ((320 : Int) != 0) = true := rfl
  cases hkk : resetV x.k x.n x.la x.r x.ss with
  | false =>
    have hko : x.ok = false := hkk
    have hv : answeredR ⟨out, inn, ps, num, seen, asked⟩ x = (StX.z, 2) := by simp only [answeredR, StX.chk, hc, hko, ne_eq, if_true, if_false, Bool.true_eq_false]
    rw [hv, ansA_err]
    refine bdy Try.f17 ?_
    intro F3 hF1 hF2
    simp only [Try.f17, cx, StX.v, Rst.v, rstP, strV, go_sem, meths]
    refine CallVC.same (hbg _ _ _) ?_
    simp only [f0, go_sem]
    repeat refine sd2 ?_
    refine CallVC.same (hpr _ _ _) ?_
    rw [hkk]
    simp only [f9, if_true, if_false, Bool.false_eq_true, go_sem]
    repeat refine sd2 ?_
    exact PostF.rs (v0 := .tup [.agg [.nilS, .nilS, .nilS, .int .i64 0, .int .i64 0, .nilS], .int .i64 2]) (.inr rfl)
  | true =>
  have hko : x.ok = true := hkk
  by_cases h2 : x.k = 2
  case neg =>
    have hv : answeredR ⟨out, inn, ps, num, seen, asked⟩ x = (StX.z, 2) := by simp only [answeredR, StX.chk, hc, hko, h2, ne_eq, not_false_eq_true, if_true, if_false, Bool.true_eq_false]
    have f2 : (x.k != 2) = true := neT h2
    rw [hv, ansA_err]
    refine bdy Try.f17 ?_
    intro F3 hF1 hF2
    simp only [Try.f17, cx, StX.v, Rst.v, rstP, strV, go_sem, meths]
    refine CallVC.same (hbg _ _ _) ?_
    simp only [f0, go_sem]
    repeat refine sd2 ?_
    refine CallVC.same (hpr _ _ _) ?_
    rw [hkk]
    simp only [f0, if_true, if_false, Bool.false_eq_true, f2, Nat.add_zero, go_sem]
    repeat refine sd2 ?_
    exact PostF.rs (v0 := .tup [.agg [.nilS, .nilS, .nilS, .int .i64 0, .int .i64 0, .nilS], .int .i64 2]) (.inr rfl)
  have f2 : (x.k != 2) = false := neF h2
  by_cases h3 : asked.length = 0
  · have hv : answeredR ⟨out, inn, ps, num, seen, asked⟩ x = (StX.z, 8) := by simp only [answeredR, StX.chk, hc, hko, h2, h3, ne_eq, not_true_eq_false, if_true, if_false, Bool.true_eq_false]
    have f3 : ((asked.length : Int) == 0) = true := eqT (by omega)
    rw [hv, ansA_err]
    refine bdy Try.f17 ?_
    intro F3 hF1 hF2
    simp only [Try.f17, cx, StX.v, Rst.v, rstP, strV, go_sem, meths]
    refine CallVC.same (hbg _ _ _) ?_
    simp only [f0, go_sem]
    repeat refine sd2 ?_
    refine CallVC.same (hpr _ _ _) ?_
    rw [hkk]
    simp only [f0, if_true, if_false, Bool.false_eq_true, f2, f3, List.length_map, Nat.add_zero, go_sem]
    repeat refine sd2 ?_
    exact PostF.rs (v0 := .tup [.agg [.nilS, .nilS, .nilS, .int .i64 0, .int .i64 0, .nilS], .int .i64 8]) (.inr rfl)
  have f3 : ((asked.length : Int) == 0) = false := eqF (by omega)
  by_cases h4 : x.n = num
  case neg =>
    have hv : answeredR ⟨out, inn, ps, num, seen, asked⟩ x = (StX.z, 10) := by simp only [answeredR, StX.chk, hc, hko, h2, h3, h4, ne_eq, not_true_eq_false, not_false_eq_true, if_true, if_false, Bool.true_eq_false]
    have f4 : (x.n != num) = true := neT h4
    rw [hv, ansA_err]
    refine bdy Try.f17 ?_
    intro F3 hF1 hF2
    simp only [Try.f17, cx, StX.v, Rst.v, rstP, strV, go_sem, meths]
    refine CallVC.same (hbg _ _ _) ?_
    simp only [f0, go_sem]
    repeat refine sd2 ?_
    refine CallVC.same (hpr _ _ _) ?_
    rw [hkk]
    simp only [f0, if_true, if_false, Bool.false_eq_true, f2, f3, f4, List.length_map, Nat.add_zero, go_sem]
    repeat refine sd2 ?_
    exact PostF.rs (v0 := .tup [.agg [.nilS, .nilS, .nilS, .int .i64 0, .int .i64 0, .nilS], .int .i64 10]) (.inr rfl)
  have f4 : (x.n != num) = false := neF h4
  by_cases h5 : x.r = 6
  · have hv : answeredR ⟨out, inn, ps, num, seen, asked⟩ x = (⟨out, inn, ps, num, seen, asked⟩, 0) := by simp only [answeredR, StX.chk, hc, hko, h2, h3, h4, h5, ne_eq, not_true_eq_false, if_true, if_false, Bool.true_eq_false]
    have f5 : (x.r == 6) = true := eqT h5
    rw [hv, ansA_ok]
    simp only
    refine bdy Try.f17 ?_
    intro F3 hF1 hF2
    simp only [Try.f17, cx, StX.v, Rst.v, rstP, strV, go_sem, meths]
    refine CallVC.same (hbg _ _ _) ?_
    simp only [f0, go_sem]
    repeat refine sd2 ?_
    refine CallVC.same (hpr _ _ _) ?_
    rw [hkk]
    simp only [f0, if_true, if_false, Bool.false_eq_true, f2, f3, f4, f5, List.length_map, Nat.add_zero, go_sem]
    repeat refine sd2 ?_
    exact PostF.rs (v0 := .tup [.agg [.sl ⟨L + 1, 161⟩ 0 out.length, .sl ⟨L + 1, 162⟩ 0 inn.length, .sl ⟨L + 1, 163⟩ 0 ps.length, .int .i64 num, .int .i64 seen, .sl ⟨L + 1, 164⟩ 0 asked.length], .int .i64 0]) (.inr rfl)
  have f5' : (x.r == 6) = false := eqF h5
  have hn : 0 ≤ num ∧ num < 4294967296 := by
    have := hS.n
    simp [serB] at this
    exact this
  have h32x : (2 : Int) ^ 32 = 4294967296 := rfl
  have h32 : (2 : Int) ^ (32 : Int).toNat = 4294967296 := rfl
  have h32' : (2 : Int) ^ (Int.toNat 32) = 4294967296 := rfl
  by_cases h6 : x.r = 1
  · have hv : answeredR ⟨out, inn, ps, num, seen, asked⟩ x = (⟨zeroAt out asked asked.length, inn, ps, (num + 1) % 4294967296, seen, []⟩, 0) := by simp only [answeredR, StX.chk, hc, hko, h2, h3, h4, h6, ne_eq, not_true_eq_false, if_true, show ¬ ((1 : Int) = 6) by omega, if_false, Bool.true_eq_false]
    have f5 : (x.r == 1) = true := eqT h6
    rw [hv, ansA_ok]
    simp only
    refine bdy Try.f17 ?_
    intro F3 hF1 hF2
    simp only [Try.f17, cx, StX.v, Rst.v, rstP, strV, go_sem, meths]
    refine CallVC.same (hbg _ _ _) ?_
    simp only [f0, go_sem]
    repeat refine sd2 ?_
    refine CallVC.same (hpr _ _ _) ?_
    rw [hkk]
    simp only [f0, if_true, if_false, Bool.false_eq_true, f2, f3, f4, f5', f5, List.length_map, Nat.add_zero, go_sem]
    repeat refine sd2 ?_
    refine loopK.intro _ _ (I := fun i : Nat => ⟨[none, none, some (.ptr ⟨L + 1, 0⟩ 0 0), none, some (.ptr ⟨L + 1, 64⟩ 0 0), none, some (.ptr ⟨L + 1, 160⟩ 0 0), none, none, none, none, none, none, none, none, none, none, none, none, none, none, none, none, none, none, none, none, none, none, none, none, none, none, none, none, none, none, none, none, none, none, none, none, none, none, none, none, none, none, none, none, none, none, none, none, none, none, none, none, none, none, some (.fs 1 (asked.map eI)), some (.int .i64 asked.length), some (.int .i64 i), none, none, none, none, none, none, none, none, none, none, none, none, none, none, none, none, none, none, none, none, none, none, none, none, none, none],
      [(⟨L + 1, 0⟩, .rows 34 6 true true [[.fs 1 (out.map eI), .fs 1 (inn.map eI), .fs 8 (ps.map Dat.row), .int .i64 num, .int .i64 seen, .fs 1 (asked.map eI)]]), (⟨L + 1, 64⟩, .rows 34 6 true true [[.nilS, .nilS, .nilS, .int .i64 0, .int .i64 0, .nilS]]),
       (⟨L + 1, 160⟩, .rows 106 6 true false [[.sl ⟨L + 1, 161⟩ 0 out.length, .sl ⟨L + 1, 162⟩ 0 inn.length, .sl ⟨L + 1, 163⟩ 0 ps.length, .int .i64 num, .int .i64 seen, .sl ⟨L + 1, 164⟩ 0 asked.length]]),
       (⟨L + 1, 161⟩, .rows 3 1 true true ((zeroAt out asked i).map eI)), (⟨L + 1, 162⟩, .rows 3 1 true true (inn.map eI)), (⟨L + 1, 163⟩, .rows 43 8 true true (ps.map Dat.row))], 10000 * (i + 1)⟩) (pre := fun i => i ≤ asked.length) (μ := fun i => asked.length - i) 0 (by omega) ?_ ?_
    · refine Sub.of (hfz hF2) (by simp only [go_sem, subT, and_self, Int.natCast_zero]) ?_ (by simp [subK, keys]) (by simp)
      simp [subH, Tx.look, zeroAt_0]
    · intro i hi6
      have lz : ((zeroAt out asked i).map eI).length = out.length := by rw [List.length_map, zeroAt_len]
      by_cases hlt : i < asked.length
      · have f6 : decide ((i : Int) < (asked.length : Int)) = true := dT (by omega)
        obtain ⟨b1, b2⟩ := listedB_at hS.a i hlt
        have r0 := getD_eI asked hlt
        have r1 := getD_eI (zeroAt out asked i) (i := (asked.getD i 0).toNat) (by rw [zeroAt_len]; omega)
        simp only [f6, lz, r0, r1, eI, set_eI, ← zeroAt_succ _ _ _ hlt, Int.toNat_natCast, Nat.add_assoc, List.length_map, Nat.add_zero, go_sem]
        repeat refine sd2 ?_
        refine ⟨i + 1, by omega, by omega, ?_⟩
        refine Sub.o hF2 ?_
        simp [subH, Tx.look]
      · have f6 : decide ((i : Int) < (asked.length : Int)) = false := dF (by omega)
        have e : i = asked.length := by omega
        subst e
        simp only [f6, Nat.add_assoc, go_sem]
        repeat refine sd2 ?_
        refine CallVC.same (behind_ok num 32 (by omega) (by omega) (by omega) (by omega)) ?_
        simp only [h32x, Nat.add_assoc, Nat.add_zero, go_sem]
        repeat refine sd2 ?_
        exact PostF.rs (v0 := .tup [.agg [.sl ⟨L + 1, 161⟩ 0 out.length, .sl ⟨L + 1, 162⟩ 0 inn.length, .sl ⟨L + 1, 163⟩ 0 ps.length, .int .i64 ((num + 1) % 4294967296), .int .i64 seen, .nilS], .int .i64 0] ) (.inr rfl) (hw := by simp [Wk, WkL, Tx.look, List.take_of_length_le, zeroAt_len])
  · have hv : answeredR ⟨out, inn, ps, num, seen, asked⟩ x = (⟨out, inn, ps, (num + 1) % 4294967296, seen, []⟩, 0) := by simp only [answeredR, StX.chk, hc, hko, h2, h3, h4, h5, h6, ne_eq, not_true_eq_false, if_false, Bool.true_eq_false]
    have f5 : (x.r == 1) = false := eqF h6
    rw [hv, ansA_ok]
    simp only
    refine bdy Try.f17 ?_
    intro F3 hF1 hF2
    simp only [Try.f17, cx, StX.v, Rst.v, rstP, strV, go_sem, meths]
    refine CallVC.same (hbg _ _ _) ?_
    simp only [f0, go_sem]
    repeat refine sd2 ?_
    refine CallVC.same (hpr _ _ _) ?_
    rw [hkk]
    simp only [f0, if_true, if_false, Bool.false_eq_true, f2, f3, f4, f5', f5, List.length_map, Nat.add_zero, go_sem]
    repeat refine sd2 ?_
    refine CallVC.same (behind_ok num 32 (by omega) (by omega) (by omega) (by omega)) ?_
    simp only [h32x, Nat.add_zero, go_sem]
    repeat refine sd2 ?_
    exact PostF.rs (v0 := .tup [.agg [.sl ⟨L + 1, 161⟩ 0 out.length, .sl ⟨L + 1, 162⟩ 0 inn.length, .sl ⟨L + 1, 163⟩ 0 ps.length, .int .i64 ((num + 1) % 4294967296), .int .i64 seen, .nilS], .int .i64 0] ) (.inr rfl)
def inB (ss : List Int) (d : Dat) : Bool := ss.any (hasP d.st)
def askedR (s : StX) (cum : Int) (x : Rst) : StX × Rst × Int :=
 if s.chk = false then (StX.z, Rst.z, 350)
 else if x.ok = false then (StX.z, Rst.z, 2)
 else if x.k ≠ 1 then (StX.z, Rst.z, 2)
 else if serB 32 cum = false then (StX.z, Rst.z, 2)
 else if listedB x.ss s.inn.length = false then (StX.z, Rst.z, 2)
 else if x.n = s.seen then (s, ⟨2, x.n, 0, 1, []⟩, 0)
 else if s.seen ≠ -1 ∧ lead x.n s.seen 32 < 0 then (StX.z, Rst.z, 10)
 else if 0 < lead x.la cum 32 then (s, ⟨2, x.n, 0, 6, []⟩, 0)
 else ({ s with inn := zeroAt s.inn x.ss x.ss.length, ps := withoutG s.ps (inB x.ss), seen := x.n }, ⟨2, x.n, 0, 1, []⟩, 0)
theorem asked1_ok {F : SF} {L nx : Nat} (d : Dat) (a : Nm) (ha : a.l ≤ L) (ea : TypeId) (o p : Bool) (k n la r : PV) (ss : List Int) (hss : ss.length ≤ 1000) (hF : F a = some (.rows ea 5 o p [[k, n, la, r, .fs 1 (ss.map eI)]])) :
  Con Try.prog 50 [.agg d.row, .ptr a 0 0] F L nx nx (.bool (inB ss d)) [] [a] := by
 refine bdy Try.f50 (hrd := (by simpa using ha)) ?_
 intro F3 hF1 hF2
 have hF := (hF1 a (by simp)).trans hF
 have q1 := nm_out' ha
 have q2 := nm_out ha
 simp only [Try.f50, cx, Dat.row, hF, q2, go_sem, meths]
 repeat refine sd1 ?_
 refine CallVC.same (contains_ok ss d.st (by omega)) ?_
 rw [show (ss.any fun x => d.st == x) = inB ss d from by unfold inB hasP; congr 1; funext y; rw [Bool.eq_iff_iff, beq_iff_eq, beq_iff_eq]; exact eq_comm]
 simp only [go_sem]
 exact .bool (.inr rfl) rfl rfl (by simp [UpdAll])
theorem askedAll_ok {F : SF} {L nx : Nat} (s : StX) (hs : s.Le 1000) (cum : Int) (x : Rst) (hx : x.ss.length ≤ 1000) : Con Try.prog 16 [s.v, .int .i64 cum, x.v] F L nx nx (ansR (askedR s cum x)) [] [] := by
  obtain ⟨out, inn, ps, num, seen, asked⟩ := s
  obtain ⟨ho, hi, hpl, ha2⟩ := hs
  simp only at ho hi hpl ha2
  have f0 : ((0 : Int) != 0) = false := rfl
  cases hc : chkB out inn num seen asked ps with
  | false =>
    have hv : askedR ⟨out, inn, ps, num, seen, asked⟩ cum x = (StX.z, Rst.z, 350) := by simp only [askedR, StX.chk, hc, ne_eq, if_true]
    rw [hv, ansR_err]
    have hb := fun F L nx => begin_bad (F := F) (L := L) (nx := nx) out inn asked num seen ps (by omega) (by omega) (by omega) (by omega) hc
    simp only [strV] at hb
    refine bdy Try.f16 ?_
    intro F3 hF1 hF2
    simp only [Try.f16, cx, StX.v, Rst.v, rstP, strV, go_sem, meths]
    refine CallVC.same (hb _ _ _) ?_
    simp only [show ((350 : Int) != 0) = true from rfl, go_sem]
    repeat refine sd2 ?_
    exact PostF.rs (v0 := .tup [.agg [.nilS, .nilS, .nilS, .int .i64 0, .int .i64 0, .nilS], .agg [.int .i64 0, .int .i64 0, .int .i64 0, .int .i64 0, .nilS], .int .i64 350]) (.inr rfl)
  | true =>
  obtain ⟨hS, hP, hD⟩ := chkB_ok hc (by omega)
  have hbg : ∀ F L nx, Con Try.prog 41 [strV out inn num seen asked ps] F L nx (nx + 5) (.tup [.ptr ⟨L, nx⟩ 0 0, .int .i64 0]) (stU L nx out inn asked num seen ps) [] := fun F L nx => begin_ok out inn asked num seen hS ps hP hD
  simp only [strV, stU] at hbg
  have hpr := fun F L nx => putReset_ok (F := F) (L := L) (nx := nx) x.k x.n x.la x.r x.ss (by omega)
  simp only [rstP] at hpr
  have f9 : ((320 : Int) != 0) = true := rfl
  cases hkk : resetV x.k x.n x.la x.r x.ss with
  | false =>
    have hko : x.ok = false := hkk
    have hv : askedR ⟨out, inn, ps, num, seen, asked⟩ cum x = (StX.z, Rst.z, 2) := by simp only [askedR, StX.chk, hc, hko, ne_eq, if_true, if_false, Bool.true_eq_false]
    rw [hv, ansR_err]
    refine bdy Try.f16 ?_
    intro F3 hF1 hF2
    simp only [Try.f16, cx, StX.v, Rst.v, rstP, strV, go_sem, meths]
    refine CallVC.same (hbg _ _ _) ?_
    simp only [f0, go_sem]
    repeat refine sd2 ?_
    refine CallVC.same (hpr _ _ _) ?_
    rw [hkk]
    simp only [f9, if_true, if_false, Bool.false_eq_true, go_sem]
    repeat refine sd2 ?_
    exact PostF.rs (v0 := .tup [.agg [.nilS, .nilS, .nilS, .int .i64 0, .int .i64 0, .nilS], .agg [.int .i64 0, .int .i64 0, .int .i64 0, .int .i64 0, .nilS], .int .i64 2]) (.inr rfl)
  | true =>
  have hko : x.ok = true := hkk
  by_cases h2 : x.k = 1
  case neg =>
    have hv : askedR ⟨out, inn, ps, num, seen, asked⟩ cum x = (StX.z, Rst.z, 2) := by simp only [askedR, StX.chk, hc, hko, h2, ne_eq, not_false_eq_true, if_true, if_false, Bool.true_eq_false]
    have f2 : (x.k != 1) = true := neT h2
    rw [hv, ansR_err]
    refine bdy Try.f16 ?_
    intro F3 hF1 hF2
    simp only [Try.f16, cx, StX.v, Rst.v, rstP, strV, go_sem, meths]
    refine CallVC.same (hbg _ _ _) ?_
    simp only [f0, go_sem]
    repeat refine sd2 ?_
    refine CallVC.same (hpr _ _ _) ?_
    rw [hkk]
    simp only [f0, if_true, if_false, Bool.false_eq_true, f2, Nat.add_zero, go_sem]
    repeat refine sd2 ?_
    exact PostF.rs (v0 := .tup [.agg [.nilS, .nilS, .nilS, .int .i64 0, .int .i64 0, .nilS], .agg [.int .i64 0, .int .i64 0, .int .i64 0, .int .i64 0, .nilS], .int .i64 2]) (.inr rfl)
  have f2 : (x.k != 1) = false := neF h2
  cases h8 : serB 32 cum with
  | false =>
    have hv : askedR ⟨out, inn, ps, num, seen, asked⟩ cum x = (StX.z, Rst.z, 2) := by simp only [askedR, StX.chk, hc, hko, h2, h8, ne_eq, not_true_eq_false, if_true, if_false, Bool.true_eq_false]
    rw [hv, ansR_err]
    refine bdy Try.f16 ?_
    intro F3 hF1 hF2
    simp only [Try.f16, cx, StX.v, Rst.v, rstP, strV, go_sem, meths]
    refine CallVC.same (hbg _ _ _) ?_
    simp only [f0, go_sem]
    repeat refine sd2 ?_
    refine CallVC.same (hpr _ _ _) ?_
    rw [hkk]
    simp only [f0, if_true, if_false, Bool.false_eq_true, f2, Nat.add_zero, go_sem]
    repeat refine sd2 ?_
    refine CallVC.pure (args2 := [_, .fs 1 ([cum].map eI)]) ⟨rfl, by simp [Wk, eI], trivial⟩ (serial_ok 32 [cum] (by omega) (by omega) (by simp)) rfl ?_
    rw [show [cum].all (serB 32) = serB 32 cum by simp, h8]
    simp only [if_true, if_false, Bool.false_eq_true, go_sem]
    repeat refine sd2 ?_
    exact PostF.rs (v0 := .tup [.agg [.nilS, .nilS, .nilS, .int .i64 0, .int .i64 0, .nilS], .agg [.int .i64 0, .int .i64 0, .int .i64 0, .int .i64 0, .nilS], .int .i64 2]) (.inr rfl)
  | true =>
  cases h9 : listedB x.ss inn.length with
  | false =>
    have hv : askedR ⟨out, inn, ps, num, seen, asked⟩ cum x = (StX.z, Rst.z, 2) := by simp only [askedR, StX.chk, hc, hko, h2, h8, h9, ne_eq, not_true_eq_false, if_true, if_false, Bool.true_eq_false]
    rw [hv, ansR_err]
    refine bdy Try.f16 ?_
    intro F3 hF1 hF2
    simp only [Try.f16, cx, StX.v, Rst.v, rstP, strV, go_sem, meths]
    refine CallVC.same (hbg _ _ _) ?_
    simp only [f0, go_sem]
    repeat refine sd2 ?_
    refine CallVC.same (hpr _ _ _) ?_
    rw [hkk]
    simp only [f0, if_true, if_false, Bool.false_eq_true, f2, Nat.add_zero, go_sem]
    repeat refine sd2 ?_
    refine CallVC.pure (args2 := [_, .fs 1 ([cum].map eI)]) ⟨rfl, by simp [Wk, eI], trivial⟩ (serial_ok 32 [cum] (by omega) (by omega) (by simp)) rfl ?_
    rw [show [cum].all (serB 32) = serB 32 cum by simp, h8]
    simp only [if_true, if_false, Bool.false_eq_true, List.length_map, go_sem]
    repeat refine sd2 ?_
    refine CallVC.same (listed_ok x.ss inn.length (by omega)) ?_
    rw [h9]
    simp only [if_true, if_false, Bool.false_eq_true, go_sem]
    repeat refine sd2 ?_
    exact PostF.rs (v0 := .tup [.agg [.nilS, .nilS, .nilS, .int .i64 0, .int .i64 0, .nilS], .agg [.int .i64 0, .int .i64 0, .int .i64 0, .int .i64 0, .nilS], .int .i64 2]) (.inr rfl)
  | true =>
  have hr2 : serB 32 x.n = true ∧ serB 32 x.la = true := by
    have h := hkk
    unfold resetV at h; simp only [Bool.and_eq_true] at h
    exact ⟨h.1.1.1.2, h.1.1.2⟩
  have h30 : x.ss.length ≤ 30 := by
    by_cases h : 31 ≤ x.ss.length
    · rw [resetV_long (by omega) h] at hkk; cases hkk
    · omega
  have hxn : 0 ≤ x.n ∧ x.n < 4294967296 := serB32 (by simpa using hr2.1)
  have hla : 0 ≤ x.la ∧ x.la < 4294967296 := serB32 (by simpa using hr2.2)
  have hcu : 0 ≤ cum ∧ cum < 4294967296 := serB32 (by simpa using h8)
  by_cases h3 : x.n = seen
  · have hv : askedR ⟨out, inn, ps, num, seen, asked⟩ cum x = (⟨out, inn, ps, num, seen, asked⟩, ⟨2, x.n, 0, 1, []⟩, 0) := by simp only [askedR, StX.chk, hc, hko, h2, h8, h9, h3, ne_eq, not_true_eq_false, if_true, if_false, Bool.true_eq_false]
    have f3 : (x.n == seen) = true := eqT h3
    rw [hv, ansR_ok]
    simp only
    refine bdy Try.f16 ?_
    intro F3 hF1 hF2
    simp only [Try.f16, cx, StX.v, Rst.v, rstP, strV, go_sem, meths]
    refine CallVC.same (hbg _ _ _) ?_
    simp only [f0, go_sem]
    repeat refine sd2 ?_
    refine CallVC.same (hpr _ _ _) ?_
    rw [hkk]
    simp only [f0, if_true, if_false, Bool.false_eq_true, f2, Nat.add_zero, go_sem]
    repeat refine sd2 ?_
    refine CallVC.pure (args2 := [_, .fs 1 ([cum].map eI)]) ⟨rfl, by simp [Wk, eI], trivial⟩ (serial_ok 32 [cum] (by omega) (by omega) (by simp)) rfl ?_
    rw [show [cum].all (serB 32) = serB 32 cum by simp, h8]
    simp only [if_true, if_false, Bool.false_eq_true, List.length_map, go_sem]
    repeat refine sd2 ?_
    refine CallVC.same (listed_ok x.ss inn.length (by omega)) ?_
    rw [h9]
    simp only [if_true, if_false, Bool.false_eq_true, f3, Nat.add_zero, go_sem]
    repeat refine sd2 ?_
    refine ⟨okDyn_num (fun x => x.i) (by kernel_rfl), ?_⟩
    repeat refine sd2 ?_
    exact PostF.rs (v0 := .tup [.agg [.sl ⟨L + 1, 193⟩ 0 out.length, .sl ⟨L + 1, 194⟩ 0 inn.length, .sl ⟨L + 1, 195⟩ 0 ps.length, .int .i64 num, .int .i64 seen, .sl ⟨L + 1, 196⟩ 0 asked.length], .agg [.int .i64 2, .int .i64 x.n, .int .i64 0, .int .i64 1, .nilS], .int .i64 0]) (.inr rfl)
  have f3 : (x.n == seen) = false := eqF h3
  by_cases h4 : seen = -1
  case pos =>
    have f4 : (seen != -1) = false := neF h4
    have hs9 : ¬ (¬ seen = -1 ∧ lead x.n seen 32 < 0) := fun h => h.1 h4
    by_cases h6 : 0 < lead x.la cum 32
    · have hv : askedR ⟨out, inn, ps, num, seen, asked⟩ cum x = (⟨out, inn, ps, num, seen, asked⟩, ⟨2, x.n, 0, 6, []⟩, 0) := by simp only [askedR, StX.chk, hc, hko, h2, h8, h9, h3, hs9, h6, ne_eq, not_true_eq_false, if_true, if_false, Bool.true_eq_false]
      have f6 : decide (0 < lead x.la cum 32) = true := dT h6
      rw [hv, ansR_ok]
      simp only
      refine bdy Try.f16 ?_
      intro F3 hF1 hF2
      simp only [Try.f16, cx, StX.v, Rst.v, rstP, strV, go_sem, meths]
      refine CallVC.same (hbg _ _ _) ?_
      simp only [f0, go_sem]
      repeat refine sd2 ?_
      refine CallVC.same (hpr _ _ _) ?_
      rw [hkk]
      simp only [f0, if_true, if_false, Bool.false_eq_true, f2, Nat.add_zero, go_sem]
      repeat refine sd2 ?_
      refine CallVC.pure (args2 := [_, .fs 1 ([cum].map eI)]) ⟨rfl, by simp [Wk, eI], trivial⟩ (serial_ok 32 [cum] (by omega) (by omega) (by simp)) rfl ?_
      rw [show [cum].all (serB 32) = serB 32 cum by simp, h8]
      simp only [if_true, if_false, Bool.false_eq_true, List.length_map, go_sem]
      repeat refine sd2 ?_
      refine CallVC.same (listed_ok x.ss inn.length (by omega)) ?_
      rw [h9]
      simp only [if_true, if_false, Bool.false_eq_true, f3, f4, go_sem]
      repeat refine sd2 ?_
      refine CallVC.same (lead_ok x.la cum 32 (by omega) (by omega) hla.1 hla.2 hcu.1 hcu.2) ?_
      simp only [if_true, if_false, Bool.false_eq_true, f6, Nat.add_zero, go_sem]
      repeat refine sd2 ?_
      refine ⟨okDyn_num (fun x => x.i) (by kernel_rfl), ?_⟩
      repeat refine sd2 ?_
      exact PostF.rs (v0 := .tup [.agg [.sl ⟨L + 1, 193⟩ 0 out.length, .sl ⟨L + 1, 194⟩ 0 inn.length, .sl ⟨L + 1, 195⟩ 0 ps.length, .int .i64 num, .int .i64 seen, .sl ⟨L + 1, 196⟩ 0 asked.length], .agg [.int .i64 2, .int .i64 x.n, .int .i64 0, .int .i64 6, .nilS], .int .i64 0]) (.inr rfl)
    have f6 : decide (0 < lead x.la cum 32) = false := dF h6
    have hv : askedR ⟨out, inn, ps, num, seen, asked⟩ cum x = (⟨out, zeroAt inn x.ss x.ss.length, withoutG ps (inB x.ss), num, x.n, asked⟩, ⟨2, x.n, 0, 1, []⟩, 0) := by simp only [askedR, StX.chk, hc, hko, h2, h8, h9, h3, hs9, h6, ne_eq, not_true_eq_false, if_false, Bool.true_eq_false]
    rw [hv, ansR_ok]
    simp only
    refine bdy Try.f16 ?_
    intro F3 hF1 hF2
    simp only [Try.f16, cx, StX.v, Rst.v, rstP, strV, go_sem, meths]
    refine CallVC.same (hbg _ _ _) ?_
    simp only [f0, go_sem]
    repeat refine sd2 ?_
    refine CallVC.same (hpr _ _ _) ?_
    rw [hkk]
    simp only [f0, if_true, if_false, Bool.false_eq_true, f2, Nat.add_zero, go_sem]
    repeat refine sd2 ?_
    refine CallVC.pure (args2 := [_, .fs 1 ([cum].map eI)]) ⟨rfl, by simp [Wk, eI], trivial⟩ (serial_ok 32 [cum] (by omega) (by omega) (by simp)) rfl ?_
    rw [show [cum].all (serB 32) = serB 32 cum by simp, h8]
    simp only [if_true, if_false, Bool.false_eq_true, List.length_map, go_sem]
    repeat refine sd2 ?_
    refine CallVC.same (listed_ok x.ss inn.length (by omega)) ?_
    rw [h9]
    simp only [if_true, if_false, Bool.false_eq_true, f3, f4, go_sem]
    repeat refine sd2 ?_
    refine CallVC.same (lead_ok x.la cum 32 (by omega) (by omega) hla.1 hla.2 hcu.1 hcu.2) ?_
    simp only [if_true, if_false, Bool.false_eq_true, f6, List.length_map, Nat.add_zero, go_sem]
    repeat refine sd2 ?_
    refine loopK.intro _ _ (I := fun i : Nat => ⟨[none, none, none, none, none, some (.ptr ⟨L + 1, 32⟩ 0 0), some (.ptr ⟨L + 1, 64⟩ 0 0), some (.ptr ⟨L + 1, 96⟩ 0 0), none, some (.ptr ⟨L + 1, 192⟩ 0 0), none, none, none, some (.ptr ⟨L + 1, 1381⟩ 0 0), none, none, none, none, none, none, none, none, none, none, none, none, none, none, none, none, none, none, none, none, none, none, none, none, none, none, none, none, none, none, none, none, none, none, none, none, none, none, none, none, none, none, none, none, none, none, none, none, none, none, none, some (.fs 1 (x.ss.map eI)), some (.int .i64 x.ss.length), some (.int .i64 i), none, none, none, none, none, none, none, none, none, none, none, none, none, none, none, none, none, none, none, none, none, none, none, none, none, none, none, none, none, none, none, none, none, none, none, none, none, none, none, none, none, none, none, none, none, none, none, none, none, none, none, none, none, none],
      [(⟨L + 1, 32⟩, .rows 48 5 true true [[.int .i64 x.k, .int .i64 x.n, .int .i64 x.la, .int .i64 x.r, .fs 1 (x.ss.map eI)]]), (⟨L + 1, 64⟩, .rows 34 6 true true [[.nilS, .nilS, .nilS, .int .i64 0, .int .i64 0, .nilS]]), (⟨L + 1, 96⟩, .rows 48 5 true true [[.int .i64 0, .int .i64 0, .int .i64 0, .int .i64 0, .nilS]]),
       (⟨L + 1, 192⟩, .rows 106 6 true false [[.sl ⟨L + 1, 193⟩ 0 out.length, .sl ⟨L + 1, 194⟩ 0 inn.length, .sl ⟨L + 1, 195⟩ 0 ps.length, .int .i64 num, .int .i64 x.n, .sl ⟨L + 1, 196⟩ 0 asked.length]]),
       (⟨L + 1, 193⟩, .rows 3 1 true true (out.map eI)), (⟨L + 1, 194⟩, .rows 3 1 true true ((zeroAt inn x.ss i).map eI)), (⟨L + 1, 195⟩, .rows 43 8 true true (ps.map Dat.row)), (⟨L + 1, 196⟩, .rows 3 1 true true (asked.map eI)), (⟨L + 1, 1381⟩, .rows 48 5 true true [[.int .i64 2, .int .i64 x.n, .int .i64 0, .int .i64 1, .nilS]])], if i = x.ss.length then 1000000 else 10000 * (i + 1)⟩) (pre := fun i => i ≤ x.ss.length) (μ := fun i => x.ss.length - i) 0 (by omega) ?_ ?_
    · refine Sub.of (hfz hF2) (by simp only [go_sem, subT, and_self, Int.natCast_zero]) ?_ (by simp [subK, keys]) (by simp only []; split <;> omega)
      simp [subH, Tx.look, zeroAt_0]
    · intro i hi6
      have lz : ((zeroAt inn x.ss i).map eI).length = inn.length := by rw [List.length_map, zeroAt_len]
      by_cases hlt : i < x.ss.length
      · have hiN : (i = x.ss.length) = False := by apply eq_false; omega
        have f7 : decide ((i : Int) < (x.ss.length : Int)) = true := dT (by omega)
        obtain ⟨c1, c2⟩ := listedB_at h9 i hlt
        have r0 := getD_eI x.ss hlt
        have r1 := getD_eI (zeroAt inn x.ss i) (i := (x.ss.getD i 0).toNat) (by rw [zeroAt_len]; omega)
        simp only [f7, hiN, if_false, lz, r0, r1, eI, set_eI, ← zeroAt_succ _ _ _ hlt, Nat.add_assoc, List.length_map, Nat.add_zero, go_sem]
        repeat refine sd2 ?_
        refine ⟨i + 1, by omega, by omega, ?_⟩
        refine Sub.of (hfz hF2) (by simp only [go_sem, subT, and_self, Int.natCast_succ]) ?_ (by simp [subK, keys]) (by simp only []; split <;> omega)
        simp [subH, Tx.look]
      · have f7 : decide ((i : Int) < (x.ss.length : Int)) = false := dF (by omega)
        have e : i = x.ss.length := by omega
        subst e
        obtain ⟨Z, hZ⟩ : ∃ Z, Z = zeroAt inn x.ss x.ss.length := ⟨_, rfl⟩
        have hZl : Z.length = inn.length := by rw [hZ, zeroAt_len]
        rw [← hZ]
        simp only [f7, if_true, Nat.add_zero, go_sem]
        repeat refine sd2 ?_
        refine CallVC.gen (args2 := [.fs 8 (ps.map Dat.row), .fn (.func 50) [] [.ptr ⟨L + 1, 32⟩ 0 0]]) (by simp [Wk, WkL, List.take_of_length_le]) (without_ok ps 50 [] [.ptr ⟨L + 1, 32⟩ 0 0] (inB x.ss) [⟨L + 1, 32⟩] (by simp) (by omega) (fun d hd L' nx' hL => asked1_ok d ⟨L + 1, 32⟩ hL 48 true true (.int .i64 x.k) (.int .i64 x.n) (.int .i64 x.la) (.int .i64 x.r) x.ss (by omega) (by simp [wkNL, wkN, unown, SF.upd, SF.set]))) ?_
        simp only [wkNL, wkN, unown, Nat.add_zero, go_sem]
        repeat refine sd2 ?_
        refine ⟨okDyn_num (fun x => x.i) (by kernel_rfl), ?_⟩
        repeat refine sd2 ?_
        exact PostF.rs (v0 := .tup [.agg [.sl ⟨L + 1, 193⟩ 0 out.length, .sl ⟨L + 1, 194⟩ 0 inn.length, .fs 8 ((withoutG ps (inB x.ss)).map Dat.row), .int .i64 num, .int .i64 x.n, .sl ⟨L + 1, 196⟩ 0 asked.length], .agg [.int .i64 2, .int .i64 x.n, .int .i64 0, .int .i64 1, .nilS], .int .i64 0] ) (.inr rfl) (hw := by simp [Wk, WkL, Tx.look, List.take_of_length_le, hZl])
  have f4 : (seen != -1) = true := neT h4
  have hsn : 0 ≤ seen ∧ seen < 4294967296 := serB32 (by rcases hS.s with h | h; exact absurd h h4; exact h)
  by_cases h5 : lead x.n seen 32 < 0
  · have hv : askedR ⟨out, inn, ps, num, seen, asked⟩ cum x = (StX.z, Rst.z, 10) := by simp only [askedR, StX.chk, hc, hko, h2, h8, h9, h3, h4, h5, ne_eq, not_true_eq_false, not_false_eq_true, true_and, if_true, if_false, Bool.true_eq_false]
    have f5 : decide (lead x.n seen 32 < 0) = true := dT h5
    rw [hv, ansR_err]
    refine bdy Try.f16 ?_
    intro F3 hF1 hF2
    simp only [Try.f16, cx, StX.v, Rst.v, rstP, strV, go_sem, meths]
    refine CallVC.same (hbg _ _ _) ?_
    simp only [f0, go_sem]
    repeat refine sd2 ?_
    refine CallVC.same (hpr _ _ _) ?_
    rw [hkk]
    simp only [f0, if_true, if_false, Bool.false_eq_true, f2, Nat.add_zero, go_sem]
    repeat refine sd2 ?_
    refine CallVC.pure (args2 := [_, .fs 1 ([cum].map eI)]) ⟨rfl, by simp [Wk, eI], trivial⟩ (serial_ok 32 [cum] (by omega) (by omega) (by simp)) rfl ?_
    rw [show [cum].all (serB 32) = serB 32 cum by simp, h8]
    simp only [if_true, if_false, Bool.false_eq_true, List.length_map, go_sem]
    repeat refine sd2 ?_
    refine CallVC.same (listed_ok x.ss inn.length (by omega)) ?_
    rw [h9]
    simp only [if_true, if_false, Bool.false_eq_true, f3, f4, go_sem]
    repeat refine sd2 ?_
    refine CallVC.same (lead_ok x.n seen 32 (by omega) (by omega) hxn.1 hxn.2 hsn.1 hsn.2) ?_
    simp only [if_true, if_false, Bool.false_eq_true, f5, go_sem]
    repeat refine sd2 ?_
    exact PostF.rs (v0 := .tup [.agg [.nilS, .nilS, .nilS, .int .i64 0, .int .i64 0, .nilS], .agg [.int .i64 0, .int .i64 0, .int .i64 0, .int .i64 0, .nilS], .int .i64 10]) (.inr rfl)
  have f5 : decide (lead x.n seen 32 < 0) = false := dF h5
  by_cases h6 : 0 < lead x.la cum 32
  · have hv : askedR ⟨out, inn, ps, num, seen, asked⟩ cum x = (⟨out, inn, ps, num, seen, asked⟩, ⟨2, x.n, 0, 6, []⟩, 0) := by simp only [askedR, StX.chk, hc, hko, h2, h8, h9, h3, h4, h5, h6, ne_eq, not_true_eq_false, not_false_eq_true, true_and, if_true, if_false, Bool.true_eq_false]
    have f6 : decide (0 < lead x.la cum 32) = true := dT h6
    rw [hv, ansR_ok]
    simp only
    refine bdy Try.f16 ?_
    intro F3 hF1 hF2
    simp only [Try.f16, cx, StX.v, Rst.v, rstP, strV, go_sem, meths]
    refine CallVC.same (hbg _ _ _) ?_
    simp only [f0, go_sem]
    repeat refine sd2 ?_
    refine CallVC.same (hpr _ _ _) ?_
    rw [hkk]
    simp only [f0, if_true, if_false, Bool.false_eq_true, f2, Nat.add_zero, go_sem]
    repeat refine sd2 ?_
    refine CallVC.pure (args2 := [_, .fs 1 ([cum].map eI)]) ⟨rfl, by simp [Wk, eI], trivial⟩ (serial_ok 32 [cum] (by omega) (by omega) (by simp)) rfl ?_
    rw [show [cum].all (serB 32) = serB 32 cum by simp, h8]
    simp only [if_true, if_false, Bool.false_eq_true, List.length_map, go_sem]
    repeat refine sd2 ?_
    refine CallVC.same (listed_ok x.ss inn.length (by omega)) ?_
    rw [h9]
    simp only [if_true, if_false, Bool.false_eq_true, f3, f4, go_sem]
    repeat refine sd2 ?_
    refine CallVC.same (lead_ok x.n seen 32 (by omega) (by omega) hxn.1 hxn.2 hsn.1 hsn.2) ?_
    simp only [if_true, if_false, Bool.false_eq_true, f5, go_sem]
    repeat refine sd2 ?_
    refine CallVC.same (lead_ok x.la cum 32 (by omega) (by omega) hla.1 hla.2 hcu.1 hcu.2) ?_
    simp only [if_true, if_false, Bool.false_eq_true, f6, Nat.add_zero, go_sem]
    repeat refine sd2 ?_
    refine ⟨okDyn_num (fun x => x.i) (by kernel_rfl), ?_⟩
    repeat refine sd2 ?_
    exact PostF.rs (v0 := .tup [.agg [.sl ⟨L + 1, 193⟩ 0 out.length, .sl ⟨L + 1, 194⟩ 0 inn.length, .sl ⟨L + 1, 195⟩ 0 ps.length, .int .i64 num, .int .i64 seen, .sl ⟨L + 1, 196⟩ 0 asked.length], .agg [.int .i64 2, .int .i64 x.n, .int .i64 0, .int .i64 6, .nilS], .int .i64 0]) (.inr rfl)
  have f6 : decide (0 < lead x.la cum 32) = false := dF h6
  have hv : askedR ⟨out, inn, ps, num, seen, asked⟩ cum x = (⟨out, zeroAt inn x.ss x.ss.length, withoutG ps (inB x.ss), num, x.n, asked⟩, ⟨2, x.n, 0, 1, []⟩, 0) := by simp only [askedR, StX.chk, hc, hko, h2, h8, h9, h3, h4, h5, h6, ne_eq, not_true_eq_false, not_false_eq_true, true_and, if_false, Bool.true_eq_false]
  rw [hv, ansR_ok]
  simp only
  refine bdy Try.f16 ?_
  intro F3 hF1 hF2
  simp only [Try.f16, cx, StX.v, Rst.v, rstP, strV, go_sem, meths]
  refine CallVC.same (hbg _ _ _) ?_
  simp only [f0, go_sem]
  repeat refine sd2 ?_
  refine CallVC.same (hpr _ _ _) ?_
  rw [hkk]
  simp only [f0, if_true, if_false, Bool.false_eq_true, f2, Nat.add_zero, go_sem]
  repeat refine sd2 ?_
  refine CallVC.pure (args2 := [_, .fs 1 ([cum].map eI)]) ⟨rfl, by simp [Wk, eI], trivial⟩ (serial_ok 32 [cum] (by omega) (by omega) (by simp)) rfl ?_
  rw [show [cum].all (serB 32) = serB 32 cum by simp, h8]
  simp only [if_true, if_false, Bool.false_eq_true, List.length_map, go_sem]
  repeat refine sd2 ?_
  refine CallVC.same (listed_ok x.ss inn.length (by omega)) ?_
  rw [h9]
  simp only [if_true, if_false, Bool.false_eq_true, f3, f4, go_sem]
  repeat refine sd2 ?_
  refine CallVC.same (lead_ok x.n seen 32 (by omega) (by omega) hxn.1 hxn.2 hsn.1 hsn.2) ?_
  simp only [if_true, if_false, Bool.false_eq_true, f5, go_sem]
  repeat refine sd2 ?_
  refine CallVC.same (lead_ok x.la cum 32 (by omega) (by omega) hla.1 hla.2 hcu.1 hcu.2) ?_
  simp only [if_true, if_false, Bool.false_eq_true, f6, List.length_map, Nat.add_zero, go_sem]
  repeat refine sd2 ?_
  refine loopK.intro _ _ (I := fun i : Nat => ⟨[none, none, none, none, none, some (.ptr ⟨L + 1, 32⟩ 0 0), some (.ptr ⟨L + 1, 64⟩ 0 0), some (.ptr ⟨L + 1, 96⟩ 0 0), none, some (.ptr ⟨L + 1, 192⟩ 0 0), none, none, none, some (.ptr ⟨L + 1, 1381⟩ 0 0), none, none, none, none, none, none, none, none, none, none, none, none, none, none, none, none, none, none, none, none, none, none, none, none, none, none, none, none, none, none, none, none, none, none, none, none, none, none, none, none, none, none, none, none, none, none, none, none, none, none, none, some (.fs 1 (x.ss.map eI)), some (.int .i64 x.ss.length), some (.int .i64 i), none, none, none, none, none, none, none, none, none, none, none, none, none, none, none, none, none, none, none, none, none, none, none, none, none, none, none, none, none, none, none, none, none, none, none, none, none, none, none, none, none, none, none, none, none, none, none, none, none, none, none, none, none, none],
    [(⟨L + 1, 32⟩, .rows 48 5 true true [[.int .i64 x.k, .int .i64 x.n, .int .i64 x.la, .int .i64 x.r, .fs 1 (x.ss.map eI)]]), (⟨L + 1, 64⟩, .rows 34 6 true true [[.nilS, .nilS, .nilS, .int .i64 0, .int .i64 0, .nilS]]), (⟨L + 1, 96⟩, .rows 48 5 true true [[.int .i64 0, .int .i64 0, .int .i64 0, .int .i64 0, .nilS]]),
     (⟨L + 1, 192⟩, .rows 106 6 true false [[.sl ⟨L + 1, 193⟩ 0 out.length, .sl ⟨L + 1, 194⟩ 0 inn.length, .sl ⟨L + 1, 195⟩ 0 ps.length, .int .i64 num, .int .i64 x.n, .sl ⟨L + 1, 196⟩ 0 asked.length]]),
     (⟨L + 1, 193⟩, .rows 3 1 true true (out.map eI)), (⟨L + 1, 194⟩, .rows 3 1 true true ((zeroAt inn x.ss i).map eI)), (⟨L + 1, 195⟩, .rows 43 8 true true (ps.map Dat.row)), (⟨L + 1, 196⟩, .rows 3 1 true true (asked.map eI)), (⟨L + 1, 1381⟩, .rows 48 5 true true [[.int .i64 2, .int .i64 x.n, .int .i64 0, .int .i64 1, .nilS]])], if i = x.ss.length then 1000000 else 10000 * (i + 1)⟩) (pre := fun i => i ≤ x.ss.length) (μ := fun i => x.ss.length - i) 0 (by omega) ?_ ?_
  · refine Sub.of (hfz hF2) (by simp only [go_sem, subT, and_self, Int.natCast_zero]) ?_ (by simp [subK, keys]) (by simp only []; split <;> omega)
    simp [subH, Tx.look, zeroAt_0]
  · intro i hi6
    have lz : ((zeroAt inn x.ss i).map eI).length = inn.length := by rw [List.length_map, zeroAt_len]
    by_cases hlt : i < x.ss.length
    · have hiN : (i = x.ss.length) = False := by apply eq_false; omega
      have f7 : decide ((i : Int) < (x.ss.length : Int)) = true := dT (by omega)
      obtain ⟨c1, c2⟩ := listedB_at h9 i hlt
      have r0 := getD_eI x.ss hlt
      have r1 := getD_eI (zeroAt inn x.ss i) (i := (x.ss.getD i 0).toNat) (by rw [zeroAt_len]; omega)
      simp only [f7, hiN, if_false, lz, r0, r1, eI, set_eI, ← zeroAt_succ _ _ _ hlt, Nat.add_assoc, List.length_map, Nat.add_zero, go_sem]
      repeat refine sd2 ?_
      refine ⟨i + 1, by omega, by omega, ?_⟩
      refine Sub.of (hfz hF2) (by simp only [go_sem, subT, and_self, Int.natCast_succ]) ?_ (by simp [subK, keys]) (by simp only []; split <;> omega)
      simp [subH, Tx.look]
    · have f7 : decide ((i : Int) < (x.ss.length : Int)) = false := dF (by omega)
      have e : i = x.ss.length := by omega
      subst e
      obtain ⟨Z, hZ⟩ : ∃ Z, Z = zeroAt inn x.ss x.ss.length := ⟨_, rfl⟩
      have hZl : Z.length = inn.length := by rw [hZ, zeroAt_len]
      rw [← hZ]
      simp only [f7, if_true, Nat.add_zero, go_sem]
      repeat refine sd2 ?_
      refine CallVC.gen (args2 := [.fs 8 (ps.map Dat.row), .fn (.func 50) [] [.ptr ⟨L + 1, 32⟩ 0 0]]) (by simp [Wk, WkL, List.take_of_length_le]) (without_ok ps 50 [] [.ptr ⟨L + 1, 32⟩ 0 0] (inB x.ss) [⟨L + 1, 32⟩] (by simp) (by omega) (fun d hd L' nx' hL => asked1_ok d ⟨L + 1, 32⟩ hL 48 true true (.int .i64 x.k) (.int .i64 x.n) (.int .i64 x.la) (.int .i64 x.r) x.ss (by omega) (by simp [wkNL, wkN, unown, SF.upd, SF.set]))) ?_
      simp only [wkNL, wkN, unown, Nat.add_zero, go_sem]
      repeat refine sd2 ?_
      refine ⟨okDyn_num (fun x => x.i) (by kernel_rfl), ?_⟩
      repeat refine sd2 ?_
      exact PostF.rs (v0 := .tup [.agg [.sl ⟨L + 1, 193⟩ 0 out.length, .sl ⟨L + 1, 194⟩ 0 inn.length, .fs 8 ((withoutG ps (inB x.ss)).map Dat.row), .int .i64 num, .int .i64 x.n, .sl ⟨L + 1, 196⟩ 0 asked.length], .agg [.int .i64 2, .int .i64 x.n, .int .i64 0, .int .i64 1, .nilS], .int .i64 0] ) (.inr rfl) (hw := by simp [Wk, WkL, Tx.look, List.take_of_length_le, hZl])
end Go.Proofs.Ytfhhbkehlfipgaa
end
