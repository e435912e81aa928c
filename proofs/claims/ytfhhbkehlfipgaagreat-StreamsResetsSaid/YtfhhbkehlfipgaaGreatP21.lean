/- Lemmas for the walk: ZC84. -/
import Derived.Test.YtfhhbkehlfipgaaGreatP20
set_option linter.all false
section
namespace Go.Proofs.YtfhhbkehlfipgaaGreat
open Go.Tx
set_option maxRecDepth 100000
set_option maxHeartbeats 16000000
def inB (ss : List Int) (d : Dat) : Bool := ss.any (hasP d.st)
def askedR (s : StX) (cum : Int) (x : Rst) : StX × Rst × Int :=
 if s.chk = false then (StX.z, Rst.z, 350)
 else if x.ok = false then (StX.z, Rst.z, 2)
 else if x.k ≠ 1 then (StX.z, Rst.z, 2)
 else if serB 32 cum = false then (StX.z, Rst.z, 2)
 else if listedB x.ss s.inn.length = false then (StX.z, Rst.z, 2)
 else if x.n = s.seen then (s, ⟨2, x.n, 0, 1, []⟩, 0)
 else if s.seen ≠ -1 ∧ lead x.n s.seen 32 < 0 then (StX.z, Rst.z, 10)
 else if 0 < lead x.la cum 32 then (s, ⟨2, x.n, 0, 6, []⟩, 0)
 else ({ s with inn := zeroAt s.inn x.ss x.ss.length, ps := withoutG s.ps (inB x.ss), seen := x.n }, ⟨2, x.n, 0, 1, []⟩, 0)
theorem asked1_ok {F : SF} {L nx : Nat} (d : Dat) (a : Nm) (ha : a.l ≤ L) (ea : TypeId) (o p : Bool) (k n la r : PV) (ss : List Int) (hss : ss.length ≤ 1000) (hF : F a = some (.rows ea 5 o p [[k, n, la, r, .fs 1 (ss.map eI)]])) :
  Con Tryz.prog 67 [.agg d.row, .ptr a 0 0] F L nx nx (.bool (inB ss d)) [] [a] := by
 refine bdy Tryz.f67 (hrd := (by simpa using ha)) ?_
 intro F3 hF1 hF2
 have hF := (hF1 a (by simp)).trans hF
 have q1 := nm_out' ha
 have q2 := nm_out ha
 simp only [Tryz.f67, cx, Dat.row, hF, q2, go_sem, meths]
 repeat refine sd1 ?_
 refine CallVC.same (contains_ok ss d.st (by omega)) ?_
 rw [show (ss.any fun x => d.st == x) = inB ss d from by unfold inB hasP; congr 1; funext y; rw [Bool.eq_iff_iff, beq_iff_eq, beq_iff_eq]; exact eq_comm]
 simp only [go_sem]
 exact .bool (.inr rfl) rfl rfl (by simp [UpdAll])
structure AkX where
 j : Nat
 q : Nat
 i : Nat
structure AkY where
 j : Nat
 i : Nat
theorem askedAll_ok {F : SF} {L nx : Nat} (s : StX) (hs : s.Le 1000) (cum : Int) (x : Rst) (hx : x.ss.length ≤ 1000) : Con Tryz.prog 29 [s.v, .int .i64 cum, x.v] F L nx nx (ansR (askedR s cum x)) [] [] := by
  obtain ⟨out, inn, ps, num, seen, asked⟩ := s
  obtain ⟨ho, hi, hpl, ha2⟩ := hs
  simp only at ho hi hpl ha2
  have f0 : ((0 : Int) != 0) = false := rfl
  cases hc : chkB out inn num seen asked ps with
  | false =>
    have hv : askedR ⟨out, inn, ps, num, seen, asked⟩ cum x = (StX.z, Rst.z, 350) := by simp only [askedR, StX.chk, hc, ne_eq, if_true]
    rw [hv, ansR_err]
    have hb := fun F L nx => begin_bad (F := F) (L := L) (nx := nx) out inn asked num seen ps (by omega) (by omega) (by omega) (by omega) hc
    simp only [strV] at hb
    refine bdy Tryz.f29 ?_
    intro F3 hF1 hF2
    simp only [Tryz.f29, cx, StX.v, Rst.v, rstP, strV, go_sem, meths]
    refine CallVC.same (hb _ _ _) ?_
    simp only [show ((350 : Int) != 0) = true from rfl, go_sem]
    repeat refine sd2 ?_
    exact PostF.rs (v0 := .tup [.agg [.nilS, .nilS, .nilS, .int .i64 0, .int .i64 0, .nilS], .agg [.int .i64 0, .int .i64 0, .int .i64 0, .int .i64 0, .nilS], .int .i64 350]) (.inr rfl)
  | true =>
  obtain ⟨hS, hP, hD⟩ := chkB_ok hc (by omega)
  have hbg : ∀ F L nx, Con Tryz.prog 54 [strV out inn num seen asked ps] F L nx (nx + 5) (.tup [.ptr ⟨L, nx⟩ 0 0, .int .i64 0]) (stU L nx out inn asked num seen ps) [] := fun F L nx => begin_ok out inn asked num seen hS ps hP hD
  simp only [strV, stU] at hbg
  have hpr := fun F L nx => putReset_ok (F := F) (L := L) (nx := nx) x.k x.n x.la x.r x.ss (by omega)
  simp only [rstP] at hpr
  have f9 : ((320 : Int) != 0) = true := rfl
  cases hkk : resetV x.k x.n x.la x.r x.ss with
  | false =>
    have hko : x.ok = false := hkk
    have hv : askedR ⟨out, inn, ps, num, seen, asked⟩ cum x = (StX.z, Rst.z, 2) := by simp only [askedR, StX.chk, hc, hko, ne_eq, if_true, if_false, Bool.true_eq_false]
    rw [hv, ansR_err]
    refine bdy Tryz.f29 ?_
    intro F3 hF1 hF2
    simp only [Tryz.f29, cx, StX.v, Rst.v, rstP, strV, go_sem, meths]
    refine CallVC.same (hbg _ _ _) ?_
    simp only [f0, go_sem]
    repeat refine sd2 ?_
    refine CallVC.same (hpr _ _ _) ?_
    rw [hkk]
    simp only [f9, if_true, if_false, Bool.false_eq_true, go_sem]
    repeat refine sd2 ?_
    exact PostF.rs (v0 := .tup [.agg [.nilS, .nilS, .nilS, .int .i64 0, .int .i64 0, .nilS], .agg [.int .i64 0, .int .i64 0, .int .i64 0, .int .i64 0, .nilS], .int .i64 2]) (.inr rfl)
  | true =>
  have hko : x.ok = true := hkk
  by_cases h2 : x.k = 1
  case neg =>
    have hv : askedR ⟨out, inn, ps, num, seen, asked⟩ cum x = (StX.z, Rst.z, 2) := by simp only [askedR, StX.chk, hc, hko, h2, ne_eq, not_false_eq_true, if_true, if_false, Bool.true_eq_false]
    have f2 : (x.k != 1) = true := neT h2
    rw [hv, ansR_err]
    refine bdy Tryz.f29 ?_
    intro F3 hF1 hF2
    simp only [Tryz.f29, cx, StX.v, Rst.v, rstP, strV, go_sem, meths]
    refine CallVC.same (hbg _ _ _) ?_
    simp only [f0, go_sem]
    repeat refine sd2 ?_
    refine CallVC.same (hpr _ _ _) ?_
    rw [hkk]
    simp only [f0, if_true, if_false, Bool.false_eq_true, f2, Nat.add_zero, go_sem]
    repeat refine sd2 ?_
    exact PostF.rs (v0 := .tup [.agg [.nilS, .nilS, .nilS, .int .i64 0, .int .i64 0, .nilS], .agg [.int .i64 0, .int .i64 0, .int .i64 0, .int .i64 0, .nilS], .int .i64 2]) (.inr rfl)
  have f2 : (x.k != 1) = false := neF h2
  cases h8 : serB 32 cum with
  | false =>
    have hv : askedR ⟨out, inn, ps, num, seen, asked⟩ cum x = (StX.z, Rst.z, 2) := by simp only [askedR, StX.chk, hc, hko, h2, h8, ne_eq, not_true_eq_false, if_true, if_false, Bool.true_eq_false]
    rw [hv, ansR_err]
    refine bdy Tryz.f29 ?_
    intro F3 hF1 hF2
    simp only [Tryz.f29, cx, StX.v, Rst.v, rstP, strV, go_sem, meths]
    refine CallVC.same (hbg _ _ _) ?_
    simp only [f0, go_sem]
    repeat refine sd2 ?_
    refine CallVC.same (hpr _ _ _) ?_
    rw [hkk]
    simp only [f0, if_true, if_false, Bool.false_eq_true, f2, Nat.add_zero, go_sem]
    repeat refine sd2 ?_
    refine CallVC.pure (args2 := [_, .fs 1 ([cum].map eI)]) ⟨rfl, by simp [Wk, eI], trivial⟩ (serial_ok 32 [cum] (by omega) (by omega) (by simp)) rfl ?_
    rw [show [cum].all (serB 32) = serB 32 cum by simp, h8]
    simp only [if_true, if_false, Bool.false_eq_true, go_sem]
    repeat refine sd2 ?_
    exact PostF.rs (v0 := .tup [.agg [.nilS, .nilS, .nilS, .int .i64 0, .int .i64 0, .nilS], .agg [.int .i64 0, .int .i64 0, .int .i64 0, .int .i64 0, .nilS], .int .i64 2]) (.inr rfl)
  | true =>
  cases h9 : listedB x.ss inn.length with
  | false =>
    have hv : askedR ⟨out, inn, ps, num, seen, asked⟩ cum x = (StX.z, Rst.z, 2) := by simp only [askedR, StX.chk, hc, hko, h2, h8, h9, ne_eq, not_true_eq_false, if_true, if_false, Bool.true_eq_false]
    rw [hv, ansR_err]
    refine bdy Tryz.f29 ?_
    intro F3 hF1 hF2
    simp only [Tryz.f29, cx, StX.v, Rst.v, rstP, strV, go_sem, meths]
    refine CallVC.same (hbg _ _ _) ?_
    simp only [f0, go_sem]
    repeat refine sd2 ?_
    refine CallVC.same (hpr _ _ _) ?_
    rw [hkk]
    simp only [f0, if_true, if_false, Bool.false_eq_true, f2, Nat.add_zero, go_sem]
    repeat refine sd2 ?_
    refine CallVC.pure (args2 := [_, .fs 1 ([cum].map eI)]) ⟨rfl, by simp [Wk, eI], trivial⟩ (serial_ok 32 [cum] (by omega) (by omega) (by simp)) rfl ?_
    rw [show [cum].all (serB 32) = serB 32 cum by simp, h8]
    simp only [if_true, if_false, Bool.false_eq_true, List.length_map, go_sem]
    repeat refine sd2 ?_
    refine CallVC.same (listed_ok x.ss inn.length (by omega)) ?_
    rw [h9]
    simp only [if_true, if_false, Bool.false_eq_true, go_sem]
    repeat refine sd2 ?_
    exact PostF.rs (v0 := .tup [.agg [.nilS, .nilS, .nilS, .int .i64 0, .int .i64 0, .nilS], .agg [.int .i64 0, .int .i64 0, .int .i64 0, .int .i64 0, .nilS], .int .i64 2]) (.inr rfl)
  | true =>
  have hr2 : serB 32 x.n = true ∧ serB 32 x.la = true := by
    have h := hkk
    unfold resetV at h; simp only [Bool.and_eq_true] at h
    exact ⟨h.1.1.1.2, h.1.1.2⟩
  have h30 : x.ss.length ≤ 30 := by
    by_cases h : 31 ≤ x.ss.length
    · rw [resetV_long (by omega) h] at hkk; cases hkk
    · omega
  have hxn : 0 ≤ x.n ∧ x.n < 4294967296 := serB32 (by simpa using hr2.1)
  have hla : 0 ≤ x.la ∧ x.la < 4294967296 := serB32 (by simpa using hr2.2)
  have hcu : 0 ≤ cum ∧ cum < 4294967296 := serB32 (by simpa using h8)
  by_cases h3 : x.n = seen
  · have hv : askedR ⟨out, inn, ps, num, seen, asked⟩ cum x = (⟨out, inn, ps, num, seen, asked⟩, ⟨2, x.n, 0, 1, []⟩, 0) := by simp only [askedR, StX.chk, hc, hko, h2, h8, h9, h3, ne_eq, not_true_eq_false, if_true, if_false, Bool.true_eq_false]
    have f3 : (x.n == seen) = true := eqT h3
    rw [hv, ansR_ok]
    simp only
    refine bdy Tryz.f29 ?_
    intro F3 hF1 hF2
    simp only [Tryz.f29, cx, StX.v, Rst.v, rstP, strV, go_sem, meths]
    refine CallVC.same (hbg _ _ _) ?_
    simp only [f0, go_sem]
    repeat refine sd2 ?_
    refine CallVC.same (hpr _ _ _) ?_
    rw [hkk]
    simp only [f0, if_true, if_false, Bool.false_eq_true, f2, Nat.add_zero, go_sem]
    repeat refine sd2 ?_
    refine CallVC.pure (args2 := [_, .fs 1 ([cum].map eI)]) ⟨rfl, by simp [Wk, eI], trivial⟩ (serial_ok 32 [cum] (by omega) (by omega) (by simp)) rfl ?_
    rw [show [cum].all (serB 32) = serB 32 cum by simp, h8]
    simp only [if_true, if_false, Bool.false_eq_true, List.length_map, go_sem]
    repeat refine sd2 ?_
    refine CallVC.same (listed_ok x.ss inn.length (by omega)) ?_
    rw [h9]
    simp only [if_true, if_false, Bool.false_eq_true, f3, Nat.add_zero, go_sem]
    repeat refine sd2 ?_
    refine ⟨okDyn_num (fun x => x.i) (by kernel_rfl), ?_⟩
    repeat refine sd2 ?_
    exact PostF.rs (v0 := .tup [.agg [.sl ⟨L + 1, 193⟩ 0 out.length, .sl ⟨L + 1, 194⟩ 0 inn.length, .sl ⟨L + 1, 195⟩ 0 ps.length, .int .i64 num, .int .i64 seen, .sl ⟨L + 1, 196⟩ 0 asked.length], .agg [.int .i64 2, .int .i64 x.n, .int .i64 0, .int .i64 1, .nilS], .int .i64 0]) (.inr rfl)
  have f3 : (x.n == seen) = false := eqF h3
  by_cases h4 : seen = -1
  case pos =>
    have f4 : (seen != -1) = false := neF h4
    have hs9 : ¬ (¬ seen = -1 ∧ lead x.n seen 32 < 0) := fun h => h.1 h4
    by_cases h6 : 0 < lead x.la cum 32
    · have hv : askedR ⟨out, inn, ps, num, seen, asked⟩ cum x = (⟨out, inn, ps, num, seen, asked⟩, ⟨2, x.n, 0, 6, []⟩, 0) := by simp only [askedR, StX.chk, hc, hko, h2, h8, h9, h3, hs9, h6, ne_eq, not_true_eq_false, if_true, if_false, Bool.true_eq_false]
      have f6 : decide (0 < lead x.la cum 32) = true := dT h6
      rw [hv, ansR_ok]
      simp only
      refine bdy Tryz.f29 ?_
      intro F3 hF1 hF2
      simp only [Tryz.f29, cx, StX.v, Rst.v, rstP, strV, go_sem, meths]
      refine CallVC.same (hbg _ _ _) ?_
      simp only [f0, go_sem]
      repeat refine sd2 ?_
      refine CallVC.same (hpr _ _ _) ?_
      rw [hkk]
      simp only [f0, if_true, if_false, Bool.false_eq_true, f2, Nat.add_zero, go_sem]
      repeat refine sd2 ?_
      refine CallVC.pure (args2 := [_, .fs 1 ([cum].map eI)]) ⟨rfl, by simp [Wk, eI], trivial⟩ (serial_ok 32 [cum] (by omega) (by omega) (by simp)) rfl ?_
      rw [show [cum].all (serB 32) = serB 32 cum by simp, h8]
      simp only [if_true, if_false, Bool.false_eq_true, List.length_map, go_sem]
      repeat refine sd2 ?_
      refine CallVC.same (listed_ok x.ss inn.length (by omega)) ?_
      rw [h9]
      simp only [if_true, if_false, Bool.false_eq_true, f3, f4, go_sem]
      repeat refine sd2 ?_
      refine CallVC.same (lead_ok x.la cum 32 (by omega) (by omega) hla.1 hla.2 hcu.1 hcu.2) ?_
      simp only [if_true, if_false, Bool.false_eq_true, f6, Nat.add_zero, go_sem]
      repeat refine sd2 ?_
      refine ⟨okDyn_num (fun x => x.i) (by kernel_rfl), ?_⟩
      repeat refine sd2 ?_
      exact PostF.rs (v0 := .tup [.agg [.sl ⟨L + 1, 193⟩ 0 out.length, .sl ⟨L + 1, 194⟩ 0 inn.length, .sl ⟨L + 1, 195⟩ 0 ps.length, .int .i64 num, .int .i64 seen, .sl ⟨L + 1, 196⟩ 0 asked.length], .agg [.int .i64 2, .int .i64 x.n, .int .i64 0, .int .i64 6, .nilS], .int .i64 0]) (.inr rfl)
    have f6 : decide (0 < lead x.la cum 32) = false := dF h6
    have hv : askedR ⟨out, inn, ps, num, seen, asked⟩ cum x = (⟨out, zeroAt inn x.ss x.ss.length, withoutG ps (inB x.ss), num, x.n, asked⟩, ⟨2, x.n, 0, 1, []⟩, 0) := by simp only [askedR, StX.chk, hc, hko, h2, h8, h9, h3, hs9, h6, ne_eq, not_true_eq_false, if_false, Bool.true_eq_false]
    rw [hv, ansR_ok]
    simp only
    refine bdy Tryz.f29 ?_
    intro F3 hF1 hF2
    simp only [Tryz.f29, cx, StX.v, Rst.v, rstP, strV, go_sem, meths]
    refine CallVC.same (hbg _ _ _) ?_
    simp only [f0, go_sem]
    repeat refine sd2 ?_
    refine CallVC.same (hpr _ _ _) ?_
    rw [hkk]
    simp only [f0, if_true, if_false, Bool.false_eq_true, f2, Nat.add_zero, go_sem]
    repeat refine sd2 ?_
    refine CallVC.pure (args2 := [_, .fs 1 ([cum].map eI)]) ⟨rfl, by simp [Wk, eI], trivial⟩ (serial_ok 32 [cum] (by omega) (by omega) (by simp)) rfl ?_
    rw [show [cum].all (serB 32) = serB 32 cum by simp, h8]
    simp only [if_true, if_false, Bool.false_eq_true, List.length_map, go_sem]
    repeat refine sd2 ?_
    refine CallVC.same (listed_ok x.ss inn.length (by omega)) ?_
    rw [h9]
    simp only [if_true, if_false, Bool.false_eq_true, f3, f4, go_sem]
    repeat refine sd2 ?_
    refine CallVC.same (lead_ok x.la cum 32 (by omega) (by omega) hla.1 hla.2 hcu.1 hcu.2) ?_
    simp only [if_true, if_false, Bool.false_eq_true, f6, List.length_map, Nat.add_zero, go_sem]
    repeat refine sd2 ?_
    refine loopK.intro _ _ (I := fun i : Nat => ⟨[none, none, none, none, none, some (.ptr ⟨L + 1, 32⟩ 0 0), some (.ptr ⟨L + 1, 64⟩ 0 0), some (.ptr ⟨L + 1, 96⟩ 0 0), none, some (.ptr ⟨L + 1, 192⟩ 0 0), none, none, none, some (.ptr ⟨L + 1, 1381⟩ 0 0), none, none, none, none, none, none, none, none, none, none, none, none, none, none, none, none, none, none, none, none, none, none, none, none, none, none, none, none, none, none, none, none, none, none, none, none, none, none, none, none, none, none, none, none, none, none, none, none, none, none, none, some (.fs 1 (x.ss.map eI)), some (.int .i64 x.ss.length), some (.int .i64 i), none, none, none, none, none, none, none, none, none, none, none, none, none, none, none, none, none, none, none, none, none, none, none, none, none, none, none, none, none, none, none, none, none, none, none, none, none, none, none, none, none, none, none, none, none, none, none, none, none, none, none, none, none, none],
      [(⟨L + 1, 32⟩, .rows 75 5 true true [[.int .i64 x.k, .int .i64 x.n, .int .i64 x.la, .int .i64 x.r, .fs 1 (x.ss.map eI)]]), (⟨L + 1, 64⟩, .rows 41 6 true true [[.nilS, .nilS, .nilS, .int .i64 0, .int .i64 0, .nilS]]), (⟨L + 1, 96⟩, .rows 75 5 true true [[.int .i64 0, .int .i64 0, .int .i64 0, .int .i64 0, .nilS]]),
       (⟨L + 1, 192⟩, .rows 110 6 true false [[.sl ⟨L + 1, 193⟩ 0 out.length, .sl ⟨L + 1, 194⟩ 0 inn.length, .sl ⟨L + 1, 195⟩ 0 ps.length, .int .i64 num, .int .i64 x.n, .sl ⟨L + 1, 196⟩ 0 asked.length]]),
       (⟨L + 1, 193⟩, .rows 3 1 true true (out.map eI)), (⟨L + 1, 194⟩, .rows 3 1 true true ((zeroAt inn x.ss i).map eI)), (⟨L + 1, 195⟩, .rows 32 8 true true (ps.map Dat.row)), (⟨L + 1, 196⟩, .rows 3 1 true true (asked.map eI)), (⟨L + 1, 1381⟩, .rows 75 5 true true [[.int .i64 2, .int .i64 x.n, .int .i64 0, .int .i64 1, .nilS]])], if i = x.ss.length then 1000000 else 10000 * (i + 1)⟩) (pre := fun i => i ≤ x.ss.length) (μ := fun i => x.ss.length - i) 0 (by omega) ?_ ?_
    · refine Sub.of (hfz hF2) (by simp only [go_sem, subT, and_self, Int.natCast_zero]) ?_ (by simp [subK, keys]) (by simp only []; split <;> omega)
      simp [subH, Tx.look, zeroAt_0]
    · intro i hi6
      have lz : ((zeroAt inn x.ss i).map eI).length = inn.length := by rw [List.length_map, zeroAt_len]
      by_cases hlt : i < x.ss.length
      · have hiN : (i = x.ss.length) = False := by apply eq_false; omega
        have f7 : decide ((i : Int) < (x.ss.length : Int)) = true := dT (by omega)
        obtain ⟨c1, c2⟩ := listedB_at h9 i hlt
        have r0 := getD_eI x.ss hlt
        have r1 := getD_eI (zeroAt inn x.ss i) (i := (x.ss.getD i 0).toNat) (by rw [zeroAt_len]; omega)
        simp only [f7, hiN, if_false, lz, r0, r1, eI, set_eI, ← zeroAt_succ _ _ _ hlt, Nat.add_assoc, List.length_map, Nat.add_zero, go_sem]
        repeat refine sd2 ?_
        refine ⟨i + 1, by omega, by omega, ?_⟩
        refine Sub.of (hfz hF2) (by simp only [go_sem, subT, and_self, Int.natCast_succ]) ?_ (by simp [subK, keys]) (by simp only []; split <;> omega)
        simp [subH, Tx.look]
      · have f7 : decide ((i : Int) < (x.ss.length : Int)) = false := dF (by omega)
        have e : i = x.ss.length := by omega
        subst e
        obtain ⟨Z, hZ⟩ : ∃ Z, Z = zeroAt inn x.ss x.ss.length := ⟨_, rfl⟩
        have hZl : Z.length = inn.length := by rw [hZ, zeroAt_len]
        rw [← hZ]
        simp only [f7, if_true, Nat.add_zero, go_sem]
        repeat refine sd2 ?_
        refine CallVC.gen (args2 := [.fs 8 (ps.map Dat.row), .fn (.func 67) [] [.ptr ⟨L + 1, 32⟩ 0 0]]) (by simp [Wk, WkL, List.take_of_length_le]) (without_ok ps 67 [] [.ptr ⟨L + 1, 32⟩ 0 0] (inB x.ss) [⟨L + 1, 32⟩] (by simp) (by omega) (fun d hd L' nx' hL => asked1_ok d ⟨L + 1, 32⟩ hL 75 true true (.int .i64 x.k) (.int .i64 x.n) (.int .i64 x.la) (.int .i64 x.r) x.ss (by omega) (by simp [wkNL, wkN, unown, SF.upd, SF.set]))) ?_
        simp only [wkNL, wkN, unown, Nat.add_zero, go_sem]
        repeat refine sd2 ?_
        refine ⟨okDyn_num (fun x => x.i) (by kernel_rfl), ?_⟩
        repeat refine sd2 ?_
        exact PostF.rs (v0 := .tup [.agg [.sl ⟨L + 1, 193⟩ 0 out.length, .sl ⟨L + 1, 194⟩ 0 inn.length, .fs 8 ((withoutG ps (inB x.ss)).map Dat.row), .int .i64 num, .int .i64 x.n, .sl ⟨L + 1, 196⟩ 0 asked.length], .agg [.int .i64 2, .int .i64 x.n, .int .i64 0, .int .i64 1, .nilS], .int .i64 0] ) (.inr rfl) (hw := by simp [Wk, WkL, Tx.look, List.take_of_length_le, hZl])
  have f4 : (seen != -1) = true := neT h4
  have hsn : 0 ≤ seen ∧ seen < 4294967296 := serB32 (by rcases hS.s with h | h; exact absurd h h4; exact h)
  by_cases h5 : lead x.n seen 32 < 0
  · have hv : askedR ⟨out, inn, ps, num, seen, asked⟩ cum x = (StX.z, Rst.z, 10) := by simp only [askedR, StX.chk, hc, hko, h2, h8, h9, h3, h4, h5, ne_eq, not_true_eq_false, not_false_eq_true, true_and, if_true, if_false, Bool.true_eq_false]
    have f5 : decide (lead x.n seen 32 < 0) = true := dT h5
    rw [hv, ansR_err]
    refine bdy Tryz.f29 ?_
    intro F3 hF1 hF2
    simp only [Tryz.f29, cx, StX.v, Rst.v, rstP, strV, go_sem, meths]
    refine CallVC.same (hbg _ _ _) ?_
    simp only [f0, go_sem]
    repeat refine sd2 ?_
    refine CallVC.same (hpr _ _ _) ?_
    rw [hkk]
    simp only [f0, if_true, if_false, Bool.false_eq_true, f2, Nat.add_zero, go_sem]
    repeat refine sd2 ?_
    refine CallVC.pure (args2 := [_, .fs 1 ([cum].map eI)]) ⟨rfl, by simp [Wk, eI], trivial⟩ (serial_ok 32 [cum] (by omega) (by omega) (by simp)) rfl ?_
    rw [show [cum].all (serB 32) = serB 32 cum by simp, h8]
    simp only [if_true, if_false, Bool.false_eq_true, List.length_map, go_sem]
    repeat refine sd2 ?_
    refine CallVC.same (listed_ok x.ss inn.length (by omega)) ?_
    rw [h9]
    simp only [if_true, if_false, Bool.false_eq_true, f3, f4, go_sem]
    repeat refine sd2 ?_
    refine CallVC.same (lead_ok x.n seen 32 (by omega) (by omega) hxn.1 hxn.2 hsn.1 hsn.2) ?_
    simp only [if_true, if_false, Bool.false_eq_true, f5, go_sem]
    repeat refine sd2 ?_
    exact PostF.rs (v0 := .tup [.agg [.nilS, .nilS, .nilS, .int .i64 0, .int .i64 0, .nilS], .agg [.int .i64 0, .int .i64 0, .int .i64 0, .int .i64 0, .nilS], .int .i64 10]) (.inr rfl)
  have f5 : decide (lead x.n seen 32 < 0) = false := dF h5
  by_cases h6 : 0 < lead x.la cum 32
  · have hv : askedR ⟨out, inn, ps, num, seen, asked⟩ cum x = (⟨out, inn, ps, num, seen, asked⟩, ⟨2, x.n, 0, 6, []⟩, 0) := by simp only [askedR, StX.chk, hc, hko, h2, h8, h9, h3, h4, h5, h6, ne_eq, not_true_eq_false, not_false_eq_true, true_and, if_true, if_false, Bool.true_eq_false]
    have f6 : decide (0 < lead x.la cum 32) = true := dT h6
    rw [hv, ansR_ok]
    simp only
    refine bdy Tryz.f29 ?_
    intro F3 hF1 hF2
    simp only [Tryz.f29, cx, StX.v, Rst.v, rstP, strV, go_sem, meths]
    refine CallVC.same (hbg _ _ _) ?_
    simp only [f0, go_sem]
    repeat refine sd2 ?_
    refine CallVC.same (hpr _ _ _) ?_
    rw [hkk]
    simp only [f0, if_true, if_false, Bool.false_eq_true, f2, Nat.add_zero, go_sem]
    repeat refine sd2 ?_
    refine CallVC.pure (args2 := [_, .fs 1 ([cum].map eI)]) ⟨rfl, by simp [Wk, eI], trivial⟩ (serial_ok 32 [cum] (by omega) (by omega) (by simp)) rfl ?_
    rw [show [cum].all (serB 32) = serB 32 cum by simp, h8]
    simp only [if_true, if_false, Bool.false_eq_true, List.length_map, go_sem]
    repeat refine sd2 ?_
    refine CallVC.same (listed_ok x.ss inn.length (by omega)) ?_
    rw [h9]
    simp only [if_true, if_false, Bool.false_eq_true, f3, f4, go_sem]
    repeat refine sd2 ?_
    refine CallVC.same (lead_ok x.n seen 32 (by omega) (by omega) hxn.1 hxn.2 hsn.1 hsn.2) ?_
    simp only [if_true, if_false, Bool.false_eq_true, f5, go_sem]
    repeat refine sd2 ?_
    refine CallVC.same (lead_ok x.la cum 32 (by omega) (by omega) hla.1 hla.2 hcu.1 hcu.2) ?_
    simp only [if_true, if_false, Bool.false_eq_true, f6, Nat.add_zero, go_sem]
    repeat refine sd2 ?_
    refine ⟨okDyn_num (fun x => x.i) (by kernel_rfl), ?_⟩
    repeat refine sd2 ?_
    exact PostF.rs (v0 := .tup [.agg [.sl ⟨L + 1, 193⟩ 0 out.length, .sl ⟨L + 1, 194⟩ 0 inn.length, .sl ⟨L + 1, 195⟩ 0 ps.length, .int .i64 num, .int .i64 seen, .sl ⟨L + 1, 196⟩ 0 asked.length], .agg [.int .i64 2, .int .i64 x.n, .int .i64 0, .int .i64 6, .nilS], .int .i64 0]) (.inr rfl)
  have f6 : decide (0 < lead x.la cum 32) = false := dF h6
  have hv : askedR ⟨out, inn, ps, num, seen, asked⟩ cum x = (⟨out, zeroAt inn x.ss x.ss.length, withoutG ps (inB x.ss), num, x.n, asked⟩, ⟨2, x.n, 0, 1, []⟩, 0) := by simp only [askedR, StX.chk, hc, hko, h2, h8, h9, h3, h4, h5, h6, ne_eq, not_true_eq_false, not_false_eq_true, true_and, if_false, Bool.true_eq_false]
  rw [hv, ansR_ok]
  simp only
  refine bdy Tryz.f29 ?_
  intro F3 hF1 hF2
  simp only [Tryz.f29, cx, StX.v, Rst.v, rstP, strV, go_sem, meths]
  refine CallVC.same (hbg _ _ _) ?_
  simp only [f0, go_sem]
  repeat refine sd2 ?_
  refine CallVC.same (hpr _ _ _) ?_
  rw [hkk]
  simp only [f0, if_true, if_false, Bool.false_eq_true, f2, Nat.add_zero, go_sem]
  repeat refine sd2 ?_
  refine CallVC.pure (args2 := [_, .fs 1 ([cum].map eI)]) ⟨rfl, by simp [Wk, eI], trivial⟩ (serial_ok 32 [cum] (by omega) (by omega) (by simp)) rfl ?_
  rw [show [cum].all (serB 32) = serB 32 cum by simp, h8]
  simp only [if_true, if_false, Bool.false_eq_true, List.length_map, go_sem]
  repeat refine sd2 ?_
  refine CallVC.same (listed_ok x.ss inn.length (by omega)) ?_
  rw [h9]
  simp only [if_true, if_false, Bool.false_eq_true, f3, f4, go_sem]
  repeat refine sd2 ?_
  refine CallVC.same (lead_ok x.n seen 32 (by omega) (by omega) hxn.1 hxn.2 hsn.1 hsn.2) ?_
  simp only [if_true, if_false, Bool.false_eq_true, f5, go_sem]
  repeat refine sd2 ?_
  refine CallVC.same (lead_ok x.la cum 32 (by omega) (by omega) hla.1 hla.2 hcu.1 hcu.2) ?_
  simp only [if_true, if_false, Bool.false_eq_true, f6, List.length_map, Nat.add_zero, go_sem]
  repeat refine sd2 ?_
  refine loopK.intro _ _ (I := fun i : Nat => ⟨[none, none, none, none, none, some (.ptr ⟨L + 1, 32⟩ 0 0), some (.ptr ⟨L + 1, 64⟩ 0 0), some (.ptr ⟨L + 1, 96⟩ 0 0), none, some (.ptr ⟨L + 1, 192⟩ 0 0), none, none, none, some (.ptr ⟨L + 1, 1381⟩ 0 0), none, none, none, none, none, none, none, none, none, none, none, none, none, none, none, none, none, none, none, none, none, none, none, none, none, none, none, none, none, none, none, none, none, none, none, none, none, none, none, none, none, none, none, none, none, none, none, none, none, none, none, some (.fs 1 (x.ss.map eI)), some (.int .i64 x.ss.length), some (.int .i64 i), none, none, none, none, none, none, none, none, none, none, none, none, none, none, none, none, none, none, none, none, none, none, none, none, none, none, none, none, none, none, none, none, none, none, none, none, none, none, none, none, none, none, none, none, none, none, none, none, none, none, none, none, none, none],
    [(⟨L + 1, 32⟩, .rows 75 5 true true [[.int .i64 x.k, .int .i64 x.n, .int .i64 x.la, .int .i64 x.r, .fs 1 (x.ss.map eI)]]), (⟨L + 1, 64⟩, .rows 41 6 true true [[.nilS, .nilS, .nilS, .int .i64 0, .int .i64 0, .nilS]]), (⟨L + 1, 96⟩, .rows 75 5 true true [[.int .i64 0, .int .i64 0, .int .i64 0, .int .i64 0, .nilS]]),
     (⟨L + 1, 192⟩, .rows 110 6 true false [[.sl ⟨L + 1, 193⟩ 0 out.length, .sl ⟨L + 1, 194⟩ 0 inn.length, .sl ⟨L + 1, 195⟩ 0 ps.length, .int .i64 num, .int .i64 x.n, .sl ⟨L + 1, 196⟩ 0 asked.length]]),
     (⟨L + 1, 193⟩, .rows 3 1 true true (out.map eI)), (⟨L + 1, 194⟩, .rows 3 1 true true ((zeroAt inn x.ss i).map eI)), (⟨L + 1, 195⟩, .rows 32 8 true true (ps.map Dat.row)), (⟨L + 1, 196⟩, .rows 3 1 true true (asked.map eI)), (⟨L + 1, 1381⟩, .rows 75 5 true true [[.int .i64 2, .int .i64 x.n, .int .i64 0, .int .i64 1, .nilS]])], if i = x.ss.length then 1000000 else 10000 * (i + 1)⟩) (pre := fun i => i ≤ x.ss.length) (μ := fun i => x.ss.length - i) 0 (by omega) ?_ ?_
  · refine Sub.of (hfz hF2) (by simp only [go_sem, subT, and_self, Int.natCast_zero]) ?_ (by simp [subK, keys]) (by simp only []; split <;> omega)
    simp [subH, Tx.look, zeroAt_0]
  · intro i hi6
    have lz : ((zeroAt inn x.ss i).map eI).length = inn.length := by rw [List.length_map, zeroAt_len]
    by_cases hlt : i < x.ss.length
    · have hiN : (i = x.ss.length) = False := by apply eq_false; omega
      have f7 : decide ((i : Int) < (x.ss.length : Int)) = true := dT (by omega)
      obtain ⟨c1, c2⟩ := listedB_at h9 i hlt
      have r0 := getD_eI x.ss hlt
      have r1 := getD_eI (zeroAt inn x.ss i) (i := (x.ss.getD i 0).toNat) (by rw [zeroAt_len]; omega)
      simp only [f7, hiN, if_false, lz, r0, r1, eI, set_eI, ← zeroAt_succ _ _ _ hlt, Nat.add_assoc, List.length_map, Nat.add_zero, go_sem]
      repeat refine sd2 ?_
      refine ⟨i + 1, by omega, by omega, ?_⟩
      refine Sub.of (hfz hF2) (by simp only [go_sem, subT, and_self, Int.natCast_succ]) ?_ (by simp [subK, keys]) (by simp only []; split <;> omega)
      simp [subH, Tx.look]
    · have f7 : decide ((i : Int) < (x.ss.length : Int)) = false := dF (by omega)
      have e : i = x.ss.length := by omega
      subst e
      obtain ⟨Z, hZ⟩ : ∃ Z, Z = zeroAt inn x.ss x.ss.length := ⟨_, rfl⟩
      have hZl : Z.length = inn.length := by rw [hZ, zeroAt_len]
      rw [← hZ]
      simp only [f7, if_true, Nat.add_zero, go_sem]
      repeat refine sd2 ?_
      refine CallVC.gen (args2 := [.fs 8 (ps.map Dat.row), .fn (.func 67) [] [.ptr ⟨L + 1, 32⟩ 0 0]]) (by simp [Wk, WkL, List.take_of_length_le]) (without_ok ps 67 [] [.ptr ⟨L + 1, 32⟩ 0 0] (inB x.ss) [⟨L + 1, 32⟩] (by simp) (by omega) (fun d hd L' nx' hL => asked1_ok d ⟨L + 1, 32⟩ hL 75 true true (.int .i64 x.k) (.int .i64 x.n) (.int .i64 x.la) (.int .i64 x.r) x.ss (by omega) (by simp [wkNL, wkN, unown, SF.upd, SF.set]))) ?_
      simp only [wkNL, wkN, unown, Nat.add_zero, go_sem]
      repeat refine sd2 ?_
      refine ⟨okDyn_num (fun x => x.i) (by kernel_rfl), ?_⟩
      repeat refine sd2 ?_
      exact PostF.rs (v0 := .tup [.agg [.sl ⟨L + 1, 193⟩ 0 out.length, .sl ⟨L + 1, 194⟩ 0 inn.length, .fs 8 ((withoutG ps (inB x.ss)).map Dat.row), .int .i64 num, .int .i64 x.n, .sl ⟨L + 1, 196⟩ 0 asked.length], .agg [.int .i64 2, .int .i64 x.n, .int .i64 0, .int .i64 1, .nilS], .int .i64 0] ) (.inr rfl) (hw := by simp [Wk, WkL, Tx.look, List.take_of_length_le, hZl])
theorem refAskedAll_ok {F : SF} {L nx : Nat} (s : StX) (hs : s.Le 1000) (cum : Int) (x : Rst) (hx : x.ss.length ≤ 1000) : Con Tryz.prog 30 [s.v, .int .i64 cum, x.v] F L nx nx (ansR (askedR s cum x)) [] [] := by
 obtain ⟨out, inn, ps, num, seen, asked⟩ := s
 obtain ⟨ho, hi, hpl, ha2⟩ := hs
 simp only at ho hi hpl ha2
 have f0 : ((0 : Int) != 0) = false := rfl
 cases hc : chkB out inn num seen asked ps with
 | false =>
  have hv : askedR ⟨out, inn, ps, num, seen, asked⟩ cum x = (StX.z, Rst.z, 350) := by simp only [askedR, StX.chk, hc, ne_eq, if_true]
  rw [hv, ansR_err]
  have hri := fun F L nx => right_ok (F := F) (L := L) (nx := nx) out inn asked num seen ps (by omega) (by omega) (by omega) (by omega)
  rw [hc] at hri
  simp only [strV] at hri
  refine bdy Tryz.f30 ?_
  intro F3 hF1 hF2
  simp only [Tryz.f30, cx, StX.v, Rst.v, rstP, strV, go_sem, meths]
  refine CallVC.same (hri _ _ _) ?_
  simp only [go_sem]
  repeat refine sd2 ?_
  exact PostF.rs (v0 := .tup [.agg [.nilS, .nilS, .nilS, .int .i64 0, .int .i64 0, .nilS], .agg [.int .i64 0, .int .i64 0, .int .i64 0, .int .i64 0, .nilS], .int .i64 350]) (.inr rfl)
 | true =>
 obtain ⟨hS, hP, hD⟩ := chkB_ok hc (by omega)
 have hri := fun F L nx => right_ok (F := F) (L := L) (nx := nx) out inn asked num seen ps (by omega) (by omega) (by omega) (by omega)
 rw [hc] at hri
 simp only [strV] at hri
 have hpr := fun F L nx => rightReset_ok (F := F) (L := L) (nx := nx) x.k x.n x.la x.r x.ss (by omega)
 simp only [rstP] at hpr
 have hco := fun F L nx => copied_ok (F := F) (L := L) (nx := nx) out inn asked num seen ps (by omega) (by omega) (by omega) (by omega)
 simp only [strV] at hco
 cases hkk : resetV x.k x.n x.la x.r x.ss with
 | false =>
  have hko : x.ok = false := hkk
  have hv : askedR ⟨out, inn, ps, num, seen, asked⟩ cum x = (StX.z, Rst.z, 2) := by simp only [askedR, StX.chk, hc, hko, ne_eq, if_true, if_false, Bool.true_eq_false]
  rw [hv, ansR_err]
  refine bdy Tryz.f30 ?_
  intro F3 hF1 hF2
  simp only [Tryz.f30, cx, StX.v, Rst.v, rstP, strV, go_sem, meths]
  refine CallVC.same (hri _ _ _) ?_
  simp only [go_sem]
  repeat refine sd2 ?_
  refine CallVC.same (hpr _ _ _) ?_
  rw [hkk]
  simp only [go_sem]
  repeat refine sd2 ?_
  exact PostF.rs (v0 := .tup [.agg [.nilS, .nilS, .nilS, .int .i64 0, .int .i64 0, .nilS], .agg [.int .i64 0, .int .i64 0, .int .i64 0, .int .i64 0, .nilS], .int .i64 2]) (.inr rfl)
 | true =>
 have hko : x.ok = true := hkk
 by_cases h2 : x.k = 1
 case neg =>
  have hv : askedR ⟨out, inn, ps, num, seen, asked⟩ cum x = (StX.z, Rst.z, 2) := by simp only [askedR, StX.chk, hc, hko, h2, ne_eq, not_false_eq_true, if_true, if_false, Bool.true_eq_false]
  have f2 : (x.k != 1) = true := neT h2
  rw [hv, ansR_err]
  refine bdy Tryz.f30 ?_
  intro F3 hF1 hF2
  simp only [Tryz.f30, cx, StX.v, Rst.v, rstP, strV, go_sem, meths]
  refine CallVC.same (hri _ _ _) ?_
  simp only [go_sem]
  repeat refine sd2 ?_
  refine CallVC.same (hpr _ _ _) ?_
  rw [hkk]
  simp only [f2, Nat.add_zero, go_sem]
  repeat refine sd2 ?_
  exact PostF.rs (v0 := .tup [.agg [.nilS, .nilS, .nilS, .int .i64 0, .int .i64 0, .nilS], .agg [.int .i64 0, .int .i64 0, .int .i64 0, .int .i64 0, .nilS], .int .i64 2]) (.inr rfl)
 have f2 : (x.k != 1) = false := neF h2
 cases h8 : serB 32 cum with
 | false =>
  have hv : askedR ⟨out, inn, ps, num, seen, asked⟩ cum x = (StX.z, Rst.z, 2) := by simp only [askedR, StX.chk, hc, hko, h2, h8, ne_eq, not_true_eq_false, if_true, if_false, Bool.true_eq_false]
  rw [hv, ansR_err]
  refine bdy Tryz.f30 ?_
  intro F3 hF1 hF2
  simp only [Tryz.f30, cx, StX.v, Rst.v, rstP, strV, go_sem, meths]
  refine CallVC.same (hri _ _ _) ?_
  simp only [go_sem]
  repeat refine sd2 ?_
  refine CallVC.same (hpr _ _ _) ?_
  rw [hkk]
  simp only [f2, Nat.add_zero, go_sem]
  repeat refine sd2 ?_
  refine CallVC.same (rWide_ok cum) ?_
  rw [h8]
  simp only [go_sem]
  repeat refine sd2 ?_
  exact PostF.rs (v0 := .tup [.agg [.nilS, .nilS, .nilS, .int .i64 0, .int .i64 0, .nilS], .agg [.int .i64 0, .int .i64 0, .int .i64 0, .int .i64 0, .nilS], .int .i64 2]) (.inr rfl)
 | true =>
 cases h9 : listedB x.ss inn.length with
 | false =>
  have hv : askedR ⟨out, inn, ps, num, seen, asked⟩ cum x = (StX.z, Rst.z, 2) := by simp only [askedR, StX.chk, hc, hko, h2, h8, h9, ne_eq, not_true_eq_false, if_true, if_false, Bool.true_eq_false]
  rw [hv, ansR_err]
  refine bdy Tryz.f30 ?_
  intro F3 hF1 hF2
  simp only [Tryz.f30, cx, StX.v, Rst.v, rstP, strV, go_sem, meths]
  refine CallVC.same (hri _ _ _) ?_
  simp only [go_sem]
  repeat refine sd2 ?_
  refine CallVC.same (hpr _ _ _) ?_
  rw [hkk]
  simp only [f2, Nat.add_zero, go_sem]
  repeat refine sd2 ?_
  refine CallVC.same (rWide_ok cum) ?_
  rw [h8]
  simp only [List.length_map, go_sem]
  repeat refine sd2 ?_
  refine CallVC.same (rListed_ok x.ss inn.length (by omega)) ?_
  rw [h9]
  simp only [go_sem]
  repeat refine sd2 ?_
  exact PostF.rs (v0 := .tup [.agg [.nilS, .nilS, .nilS, .int .i64 0, .int .i64 0, .nilS], .agg [.int .i64 0, .int .i64 0, .int .i64 0, .int .i64 0, .nilS], .int .i64 2]) (.inr rfl)
 | true =>
 have hr2 : serB 32 x.n = true ∧ serB 32 x.la = true := by
  have h := hkk
  unfold resetV at h; simp only [Bool.and_eq_true] at h
  exact ⟨h.1.1.1.2, h.1.1.2⟩
 have h30 : x.ss.length ≤ 30 := by
  by_cases h : 31 ≤ x.ss.length
  ·rw [resetV_long (by omega) h] at hkk; cases hkk
  ·omega
 have hxn : 0 ≤ x.n ∧ x.n < 4294967296 := serB32 (by simpa using hr2.1)
 have hla : 0 ≤ x.la ∧ x.la < 4294967296 := serB32 (by simpa using hr2.2)
 have hcu : 0 ≤ cum ∧ cum < 4294967296 := serB32 (by simpa using h8)
 by_cases h3 : x.n = seen
 ·have hv : askedR ⟨out, inn, ps, num, seen, asked⟩ cum x = (⟨out, inn, ps, num, seen, asked⟩, ⟨2, x.n, 0, 1, []⟩, 0) := by simp only [askedR, StX.chk, hc, hko, h2, h8, h9, h3, ne_eq, not_true_eq_false, if_true, if_false, Bool.true_eq_false]
  have f3 : (x.n == seen) = true := eqT h3
  rw [hv, ansR_ok]
  simp only
  refine bdy Tryz.f30 ?_
  intro F3 hF1 hF2
  simp only [Tryz.f30, cx, StX.v, Rst.v, rstP, strV, go_sem, meths]
  refine CallVC.same (hri _ _ _) ?_
  simp only [go_sem]
  repeat refine sd2 ?_
  refine CallVC.same (hpr _ _ _) ?_
  rw [hkk]
  simp only [f2, Nat.add_zero, go_sem]
  repeat refine sd2 ?_
  refine CallVC.same (rWide_ok cum) ?_
  rw [h8]
  simp only [List.length_map, go_sem]
  repeat refine sd2 ?_
  refine CallVC.same (rListed_ok x.ss inn.length (by omega)) ?_
  rw [h9]
  simp only [f3, go_sem]
  repeat refine sd2 ?_
  refine ⟨okDyn_num (fun x => x.i) (by kernel_rfl), ?_⟩
  repeat refine sd2 ?_
  exact PostF.rs (v0 := .tup [.agg [.fs 1 (out.map eI), .fs 1 (inn.map eI), .fs 8 (ps.map Dat.row), .int .i64 num, .int .i64 seen, .fs 1 (asked.map eI)], .agg [.int .i64 2, .int .i64 x.n, .int .i64 0, .int .i64 1, .nilS], .int .i64 0]) (.inr rfl)
 have f3 : (x.n == seen) = false := eqF h3
 by_cases h4 : seen = -1
 case pos =>
  have f4 : (seen != -1) = false := neF h4
  have hs9 : ¬ (¬ seen = -1 ∧ lead x.n seen 32 < 0) := fun h => h.1 h4
  by_cases h6 : 0 < lead x.la cum 32
  ·have hv : askedR ⟨out, inn, ps, num, seen, asked⟩ cum x = (⟨out, inn, ps, num, seen, asked⟩, ⟨2, x.n, 0, 6, []⟩, 0) := by simp only [askedR, StX.chk, hc, hko, h2, h8, h9, h3, hs9, h6, ne_eq, not_true_eq_false, if_true, if_false, Bool.true_eq_false]
   have f6 : decide (0 < lead x.la cum 32) = true := dT h6
   rw [hv, ansR_ok]
   simp only
   refine bdy Tryz.f30 ?_
   intro F3 hF1 hF2
   simp only [Tryz.f30, cx, StX.v, Rst.v, rstP, strV, go_sem, meths]
   refine CallVC.same (hri _ _ _) ?_
   simp only [go_sem]
   repeat refine sd2 ?_
   refine CallVC.same (hpr _ _ _) ?_
   rw [hkk]
   simp only [f2, Nat.add_zero, go_sem]
   repeat refine sd2 ?_
   refine CallVC.same (rWide_ok cum) ?_
   rw [h8]
   simp only [List.length_map, go_sem]
   repeat refine sd2 ?_
   refine CallVC.same (rListed_ok x.ss inn.length (by omega)) ?_
   rw [h9]
   simp only [f3, f4, go_sem]
   repeat refine sd2 ?_
   refine CallVC.same (rLead32_ok x.la cum hla.1 hla.2 hcu.1 hcu.2) ?_
   simp only [f6, go_sem]
   repeat refine sd2 ?_
   refine ⟨okDyn_num (fun x => x.i) (by kernel_rfl), ?_⟩
   repeat refine sd2 ?_
   exact PostF.rs (v0 := .tup [.agg [.fs 1 (out.map eI), .fs 1 (inn.map eI), .fs 8 (ps.map Dat.row), .int .i64 num, .int .i64 seen, .fs 1 (asked.map eI)], .agg [.int .i64 2, .int .i64 x.n, .int .i64 0, .int .i64 6, .nilS], .int .i64 0]) (.inr rfl)
  have f6 : decide (0 < lead x.la cum 32) = false := dF h6
  have hv : askedR ⟨out, inn, ps, num, seen, asked⟩ cum x = (⟨out, zeroAt inn x.ss x.ss.length, withoutG ps (inB x.ss), num, x.n, asked⟩, ⟨2, x.n, 0, 1, []⟩, 0) := by simp only [askedR, StX.chk, hc, hko, h2, h8, h9, h3, hs9, h6, ne_eq, not_true_eq_false, if_false, Bool.true_eq_false]
  rw [hv, ansR_ok]
  simp only
  refine bdy Tryz.f30 ?_
  intro F3 hF1 hF2
  simp only [Tryz.f30, cx, StX.v, Rst.v, rstP, strV, go_sem, meths]
  refine CallVC.same (hri _ _ _) ?_
  simp only [go_sem]
  repeat refine sd2 ?_
  refine CallVC.same (hpr _ _ _) ?_
  rw [hkk]
  simp only [f2, Nat.add_zero, go_sem]
  repeat refine sd2 ?_
  refine CallVC.same (rWide_ok cum) ?_
  rw [h8]
  simp only [List.length_map, go_sem]
  repeat refine sd2 ?_
  refine CallVC.same (rListed_ok x.ss inn.length (by omega)) ?_
  rw [h9]
  simp only [f3, f4, go_sem]
  repeat refine sd2 ?_
  refine CallVC.same (rLead32_ok x.la cum hla.1 hla.2 hcu.1 hcu.2) ?_
  simp only [f6, go_sem]
  repeat refine sd2 ?_
  refine CallVC.same (hco _ _ _) ?_
  simp only [go_sem]
  repeat refine sd2 ?_
  refine loopK.intro _ _ (I := fun y : AkX => ⟨[none, none, none, some (.ptr ⟨L + 1, 0⟩ 0 0), none, some (.ptr ⟨L + 1, 32⟩ 0 0), some (.ptr ⟨L + 1, 64⟩ 0 0), some (.ptr ⟨L + 1, 96⟩ 0 0), none, some (.sl ⟨L + 1, y.q⟩ 0 (kept (inB x.ss) ps y.j).length), some (.int .i64 y.j), none, none, none, none, none, none, none, none, none, none, none, none, none, none, none, none, none, none, none, none, none, none, none, none, none, none, none, none, none, none, none, none, none, none, none, none, none, none, none, none, none, none, none, none, none, none, none, none, none, none, none, none, none, none, none, none, none, none, none, none, none, none, none, none, none, none, none, none, none, none, none, none, none, none, none, none, none, none, none, none, none, none, none, none, none, none, none, none, none, none, none, none, none, none, none, none, none, none, none, none, none, none, none, none, none, none, none, none, none, none, none, none, none, none, none, none, none],
   [(⟨L + 1, 0⟩, .rows 41 6 true false [[.sl ⟨L + 1, 1472⟩ 0 out.length, .sl ⟨L + 1, 1473⟩ 0 inn.length, .sl ⟨L + 1, 1474⟩ 0 ps.length, .int .i64 num, .int .i64 seen, .sl ⟨L + 1, 1475⟩ 0 asked.length]]), (⟨L + 1, 32⟩, .rows 75 5 true true [[.int .i64 x.k, .int .i64 x.n, .int .i64 x.la, .int .i64 x.r, .fs 1 (x.ss.map eI)]]), (⟨L + 1, 64⟩, .rows 41 6 true true [[.nilS, .nilS, .nilS, .int .i64 0, .int .i64 0, .nilS]]), (⟨L + 1, 96⟩, .rows 75 5 true true [[.int .i64 0, .int .i64 0, .int .i64 0, .int .i64 0, .nilS]]), (⟨L + 1, 1472⟩, .rows 3 1 true true (out.map eI)), (⟨L + 1, 1473⟩, .rows 3 1 true true (inn.map eI)), (⟨L + 1, 1475⟩, .rows 3 1 true true (asked.map eI)), (⟨L + 1, 1474⟩, .rows 32 8 true true (ps.map Dat.row)), (⟨L + 1, y.q⟩, .rows 32 8 true true ((kept (inB x.ss) ps y.j).map Dat.row))], 10000 * (y.i + 1)⟩)
   (pre := fun y => y.j ≤ ps.length ∧ 200 ≤ y.i ∧ 1572 ≤ y.q ∧ y.q < 10000 * (y.i + 1)) (μ := fun y => ps.length - y.j) ⟨0, 1572, 200⟩ ⟨by simp, by simp, by simp, by simp⟩ ?_ ?_
  ·have e0 : kept (inB x.ss) ps 0 = [] := rfl
   refine Sub.trans (Sub.nilName 9 32 (wd := 8) (by omega) rfl) ?_
   refine Sub.of (hfz hF2) (by simp only [e0, List.length_nil, go_sem, subT, and_self, Int.natCast_zero]) ?_ (by simp [subK, keys, updH, setH]) (by simp)
   simp [subH, Tx.look, updH, setH, e0]
  ·rintro ⟨j, q, i⟩ ⟨hj0, hi, hq1, hq2⟩
   simp only at hj0 hi hq1 hq2 ⊢
   have nd1 : ∀ k, k < 2000000 → (10000 * (i + 1) = k) = False := fun k h => by apply eq_false; omega
   have nd2 : ∀ k, k < 2000000 → (k = 10000 * (i + 1)) = False := fun k h => by apply eq_false; omega
   have q_0 : (q = 0) = False := by apply eq_false; omega
   have n0_q : (0 = q) = False := by apply eq_false; omega
   have q_32 : (q = 32) = False := by apply eq_false; omega
   have n32_q : (32 = q) = False := by apply eq_false; omega
   have q_64 : (q = 64) = False := by apply eq_false; omega
   have n64_q : (64 = q) = False := by apply eq_false; omega
   have q_96 : (q = 96) = False := by apply eq_false; omega
   have n96_q : (96 = q) = False := by apply eq_false; omega
   have q_1472 : (q = 1472) = False := by apply eq_false; omega
   have n1472_q : (1472 = q) = False := by apply eq_false; omega
   have q_1473 : (q = 1473) = False := by apply eq_false; omega
   have n1473_q : (1473 = q) = False := by apply eq_false; omega
   have q_1474 : (q = 1474) = False := by apply eq_false; omega
   have n1474_q : (1474 = q) = False := by apply eq_false; omega
   have q_1475 : (q = 1475) = False := by apply eq_false; omega
   have n1475_q : (1475 = q) = False := by apply eq_false; omega
   have q_n1 : ∀ kk, (10000 * (i + 1) + kk = q) = False := fun kk => by apply eq_false; omega
   have q_n2 : ∀ kk, (q = 10000 * (i + 1) + kk) = False := fun kk => by apply eq_false; omega
   have q_n3 : (10000 * (i + 1) = q) = False := by apply eq_false; omega
   have q_n4 : (q = 10000 * (i + 1)) = False := by apply eq_false; omega
   have q_n5 : ∀ kk, ((⟨L + 1, q⟩ : Nm) == ⟨L + 1, 10000 * (i + 1) + kk⟩) = false := fun kk => by simp; omega
   have hkl := kept_len (inB x.ss) ps j
   by_cases hj : j < ps.length
   ·have f7 : decide ((j : Int) < (ps.length : Int)) = true := dT (by omega)
    have r0 := rowD hj
    have hks := kept_succ (h := inB x.ss) hj
    obtain ⟨d, hd⟩ : ∃ d, d = ps[j] := ⟨_, rfl⟩
    rw [← hd] at r0 hks
    obtain ⟨U, hU⟩ : ∃ K, K = kept (inB x.ss) ps j := ⟨_, rfl⟩
    rw [← hU] at hks hkl ⊢
    have hha := fun F L nx => has_ok (F := F) (L := L) (nx := nx) x.ss d.st (by omega)
    rw [show x.ss.any (hasP d.st) = inB x.ss d from rfl] at hha
    simp only [f7, r0, Dat.row, Int.toNat_natCast, n0_q, n32_q, n1474_q, Nat.add_assoc, List.length_map, go_sem]
    repeat refine sd2 ?_
    refine CallVC.same (hha _ _ _) ?_
    cases hb : inB x.ss d with
    | true =>
     rw [hb] at hks
     have e1 : kept (inB x.ss) ps (j + 1) = U := by rw [hks]; simp
     simp only [Nat.add_assoc, go_sem]
     repeat refine sd2 ?_
     refine ⟨okDyn_num (fun x => x.i % 10000) (by simp only [numF, List.map, Nat.reduceMod]; kernel_rfl), ?_⟩
     repeat refine sd2 ?_
     refine ⟨⟨j + 1, q, i + 1⟩, ⟨by simp only []; omega, by simp only []; omega, by simp only []; omega, by simp only []; omega⟩, by simp only []; omega, ?_⟩
     refine Sub.of (hfz hF2) (by simp only [e1, go_sem, subT, and_self, Int.natCast_succ]) ?_ (by simp [subK, keys]) (by simp only []; omega)
     simp only [e1]
     simp [subH, Tx.look, q_0, q_32, q_64, q_96, q_1472, q_1473, q_1474, q_1475]
    | false =>
     rw [hb] at hks
     have e1 : (kept (inB x.ss) ps (j + 1)).map Dat.row = U.map Dat.row ++ [[.int .i64 d.tsn, .int .i64 d.st, .int .i64 d.sq, .int .i64 d.pr, .bool d.fi, .bool d.la, .bool d.lo, .str d.pl]] := by rw [hks]; simp [Dat.row]
     have e2 : (kept (inB x.ss) ps (j + 1)).length = U.length + 1 := by rw [hks]; simp
     simp only [r0, Dat.row, Int.toNat_natCast, q_0, n0_q, q_32, q_64, q_96, q_1472, q_1473, q_1474, n1474_q, q_1475, q_n1, q_n2, q_n5, nd1, nS2, Nat.add_assoc, List.length_map, go_sem]
     repeat refine sd2 ?_
     refine ⟨okDyn_num (fun x => x.i % 10000) (by simp only [numF, List.map, Nat.reduceMod]; kernel_rfl), ?_⟩
     repeat refine sd2 ?_
     refine ⟨⟨j + 1, 10000 * (i + 1) + 672, i + 1⟩, ⟨by simp only []; omega, by simp only []; omega, by simp only []; omega, by simp only []; omega⟩, by simp only []; omega, ?_⟩
     refine Sub.of (hfz hF2) (by simp only [e2, go_sem, subT, and_self, Int.natCast_succ]) ?_ (by simp [subK, keys]) (by simp only []; omega)
     simp only [e1, go_sem]
     simp [subH, Tx.look, q_n1, nd1]
   ·have f7 : decide ((j : Int) < (ps.length : Int)) = false := dF (by omega)
    have e : j = ps.length := by omega
    subst e
    rw [kept_all]
    obtain ⟨P2, hP2⟩ : ∃ P, P = withoutG ps (inB x.ss) := ⟨_, rfl⟩
    rw [← hP2]
    simp only [f7, n0_q, Nat.add_assoc, go_sem]
    repeat refine sd2 ?_
    refine loopK.intro _ _ (I := fun y : AkY => ⟨[none, none, none, some (.ptr ⟨L + 1, 0⟩ 0 0), none, some (.ptr ⟨L + 1, 32⟩ 0 0), some (.ptr ⟨L + 1, 64⟩ 0 0), some (.ptr ⟨L + 1, 96⟩ 0 0), none, some (.sl ⟨L + 1, q⟩ 0 P2.length), none, some (.int .i64 y.j), none, none, none, none, none, none, none, none, none, none, none, none, none, none, none, none, none, none, none, none, none, none, none, none, none, none, none, none, none, none, none, none, none, none, none, none, none, none, none, none, none, none, none, none, none, none, none, none, none, none, none, none, none, none, none, none, none, none, none, none, none, none, none, none, none, none, none, none, none, none, none, none, none, none, none, none, none, none, none, none, none, none, none, none, none, none, none, none, none, none, none, none, none, none, none, none, none, none, none, none, none, none, none, none, none, none, none, none, none, none, none, none, none, none, none, none],
     [(⟨L + 1, 0⟩, .rows 41 6 true false [[.sl ⟨L + 1, 1472⟩ 0 out.length, .sl ⟨L + 1, 1473⟩ 0 inn.length, .sl ⟨L + 1, 1474⟩ 0 ps.length, .int .i64 num, .int .i64 seen, .sl ⟨L + 1, 1475⟩ 0 asked.length]]), (⟨L + 1, 32⟩, .rows 75 5 true true [[.int .i64 x.k, .int .i64 x.n, .int .i64 x.la, .int .i64 x.r, .fs 1 (x.ss.map eI)]]), (⟨L + 1, 64⟩, .rows 41 6 true true [[.nilS, .nilS, .nilS, .int .i64 0, .int .i64 0, .nilS]]), (⟨L + 1, 96⟩, .rows 75 5 true true [[.int .i64 0, .int .i64 0, .int .i64 0, .int .i64 0, .nilS]]), (⟨L + 1, 1472⟩, .rows 3 1 true true (out.map eI)), (⟨L + 1, 1473⟩, .rows 3 1 true true ((zeroAt inn x.ss y.j).map eI)), (⟨L + 1, 1475⟩, .rows 3 1 true true (asked.map eI)), (⟨L + 1, q⟩, .rows 32 8 true true (P2.map Dat.row))], 10000 * (y.i + 1)⟩)
     (pre := fun y => y.j ≤ x.ss.length ∧ 200 ≤ y.i ∧ q < 10000 * (y.i + 1)) (μ := fun y => x.ss.length - y.j) ⟨0, i + 1⟩ ⟨by simp, by simp only []; omega, by simp only []; omega⟩ ?_ ?_
    ·refine Sub.o hF2 ?_
     simp [subH, Tx.look, zeroAt_0, q_0, q_32, q_64, q_96, q_1472, q_1473, q_1474, q_1475]
    ·clear nd1 nd2 hq2 hi q_n1 q_n2 q_n3 q_n4 q_n5 i
     rintro ⟨j, i⟩ ⟨hj0, hi, hq2⟩
     simp only at hj0 hi hq2 ⊢
     have nd1 : ∀ k, k < 2000000 → (10000 * (i + 1) = k) = False := fun k h => by apply eq_false; omega
     have nd2 : ∀ k, k < 2000000 → (k = 10000 * (i + 1)) = False := fun k h => by apply eq_false; omega
     have q_0 : (q = 0) = False := by apply eq_false; omega
     have n0_q : (0 = q) = False := by apply eq_false; omega
     have q_32 : (q = 32) = False := by apply eq_false; omega
     have n32_q : (32 = q) = False := by apply eq_false; omega
     have q_64 : (q = 64) = False := by apply eq_false; omega
     have n64_q : (64 = q) = False := by apply eq_false; omega
     have q_96 : (q = 96) = False := by apply eq_false; omega
     have n96_q : (96 = q) = False := by apply eq_false; omega
     have q_1472 : (q = 1472) = False := by apply eq_false; omega
     have n1472_q : (1472 = q) = False := by apply eq_false; omega
     have q_1473 : (q = 1473) = False := by apply eq_false; omega
     have n1473_q : (1473 = q) = False := by apply eq_false; omega
     have q_1474 : (q = 1474) = False := by apply eq_false; omega
     have n1474_q : (1474 = q) = False := by apply eq_false; omega
     have q_1475 : (q = 1475) = False := by apply eq_false; omega
     have n1475_q : (1475 = q) = False := by apply eq_false; omega
     have q_n1 : ∀ kk, (10000 * (i + 1) + kk = q) = False := fun kk => by apply eq_false; omega
     have q_n2 : ∀ kk, (q = 10000 * (i + 1) + kk) = False := fun kk => by apply eq_false; omega
     have q_n3 : (10000 * (i + 1) = q) = False := by apply eq_false; omega
     have q_n4 : (q = 10000 * (i + 1)) = False := by apply eq_false; omega
     have q_n5 : ∀ kk, ((⟨L + 1, q⟩ : Nm) == ⟨L + 1, 10000 * (i + 1) + kk⟩) = false := fun kk => by simp; omega
     have lz : ((zeroAt inn x.ss j).map eI).length = inn.length := by rw [List.length_map, zeroAt_len]
     by_cases hj : j < x.ss.length
     ·have f7 : decide ((j : Int) < (x.ss.length : Int)) = true := dT (by omega)
      obtain ⟨c1, c2⟩ := listedB_at h9 j hj
      have r0 := getD_eI x.ss hj
      have r1 := getD_eI (zeroAt inn x.ss j) (i := (x.ss.getD j 0).toNat) (by rw [zeroAt_len]; omega)
      simp only [f7, lz, r0, r1, eI, set_eI, ← zeroAt_succ _ _ _ hj, Int.toNat_natCast, n0_q, n32_q, n1473_q, Nat.add_assoc, List.length_map, go_sem]
      repeat refine sd2 ?_
      refine ⟨okDyn_num (fun x => x.i % 10000) (by simp only [numF, List.map, Nat.reduceMod]; kernel_rfl), ?_⟩
      repeat refine sd2 ?_
      refine ⟨⟨j + 1, i + 1⟩, ⟨by simp only []; omega, by simp only []; omega, by simp only []; omega⟩, by simp only []; omega, ?_⟩
      refine Sub.o hF2 ?_
      simp [subH, Tx.look, q_0, q_32, q_64, q_96, q_1472, q_1473, q_1475]
     ·have f7 : decide ((j : Int) < (x.ss.length : Int)) = false := dF (by omega)
      have e : j = x.ss.length := by omega
      subst e
      obtain ⟨Z, hZ⟩ : ∃ Z, Z = zeroAt inn x.ss x.ss.length := ⟨_, rfl⟩
      have hZl : Z.length = inn.length := by rw [hZ, zeroAt_len]
      rw [← hZ]
      simp only [f7, n0_q, n32_q, n64_q, n96_q, Nat.add_assoc, List.length_map, go_sem]
      repeat refine sd2 ?_
      refine ⟨okDyn_num (fun x => x.i % 10000) (by simp only [numF, List.map, Nat.reduceMod]; kernel_rfl), ?_⟩
      repeat refine sd2 ?_
      exact PostF.rs (v0 := .tup [.agg [.sl ⟨L + 1, 1472⟩ 0 out.length, .sl ⟨L + 1, 1473⟩ 0 inn.length, .sl ⟨L + 1, q⟩ 0 P2.length, .int .i64 num, .int .i64 x.n, .sl ⟨L + 1, 1475⟩ 0 asked.length], .agg [.int .i64 2, .int .i64 x.n, .int .i64 0, .int .i64 1, .nilS], .int .i64 0] ) (.inr rfl) (hw := by simp [Wk, WkL, Tx.look, List.take_of_length_le, hZl, q_0, q_32, q_64, q_96, q_1472, q_1473, q_1475])
 have f4 : (seen != -1) = true := neT h4
 have hsn : 0 ≤ seen ∧ seen < 4294967296 := serB32 (by rcases hS.s with h | h; exact absurd h h4; exact h)
 by_cases h5 : lead x.n seen 32 < 0
 ·have hv : askedR ⟨out, inn, ps, num, seen, asked⟩ cum x = (StX.z, Rst.z, 10) := by simp only [askedR, StX.chk, hc, hko, h2, h8, h9, h3, h4, h5, ne_eq, not_true_eq_false, not_false_eq_true, true_and, if_true, if_false, Bool.true_eq_false]
  have f5 : decide (lead x.n seen 32 < 0) = true := dT h5
  rw [hv, ansR_err]
  refine bdy Tryz.f30 ?_
  intro F3 hF1 hF2
  simp only [Tryz.f30, cx, StX.v, Rst.v, rstP, strV, go_sem, meths]
  refine CallVC.same (hri _ _ _) ?_
  simp only [go_sem]
  repeat refine sd2 ?_
  refine CallVC.same (hpr _ _ _) ?_
  rw [hkk]
  simp only [f2, Nat.add_zero, go_sem]
  repeat refine sd2 ?_
  refine CallVC.same (rWide_ok cum) ?_
  rw [h8]
  simp only [List.length_map, go_sem]
  repeat refine sd2 ?_
  refine CallVC.same (rListed_ok x.ss inn.length (by omega)) ?_
  rw [h9]
  simp only [f3, f4, go_sem]
  repeat refine sd2 ?_
  refine CallVC.same (rLead32_ok x.n seen hxn.1 hxn.2 hsn.1 hsn.2) ?_
  simp only [f5, go_sem]
  repeat refine sd2 ?_
  exact PostF.rs (v0 := .tup [.agg [.nilS, .nilS, .nilS, .int .i64 0, .int .i64 0, .nilS], .agg [.int .i64 0, .int .i64 0, .int .i64 0, .int .i64 0, .nilS], .int .i64 10]) (.inr rfl)
 have f5 : decide (lead x.n seen 32 < 0) = false := dF h5
 by_cases h6 : 0 < lead x.la cum 32
 ·have hv : askedR ⟨out, inn, ps, num, seen, asked⟩ cum x = (⟨out, inn, ps, num, seen, asked⟩, ⟨2, x.n, 0, 6, []⟩, 0) := by simp only [askedR, StX.chk, hc, hko, h2, h8, h9, h3, h4, h5, h6, ne_eq, not_true_eq_false, not_false_eq_true, true_and, if_true, if_false, Bool.true_eq_false]
  have f6 : decide (0 < lead x.la cum 32) = true := dT h6
  rw [hv, ansR_ok]
  simp only
  refine bdy Tryz.f30 ?_
  intro F3 hF1 hF2
  simp only [Tryz.f30, cx, StX.v, Rst.v, rstP, strV, go_sem, meths]
  refine CallVC.same (hri _ _ _) ?_
  simp only [go_sem]
  repeat refine sd2 ?_
  refine CallVC.same (hpr _ _ _) ?_
  rw [hkk]
  simp only [f2, Nat.add_zero, go_sem]
  repeat refine sd2 ?_
  refine CallVC.same (rWide_ok cum) ?_
  rw [h8]
  simp only [List.length_map, go_sem]
  repeat refine sd2 ?_
  refine CallVC.same (rListed_ok x.ss inn.length (by omega)) ?_
  rw [h9]
  simp only [f3, f4, go_sem]
  repeat refine sd2 ?_
  refine CallVC.same (rLead32_ok x.n seen hxn.1 hxn.2 hsn.1 hsn.2) ?_
  simp only [f5, go_sem]
  repeat refine sd2 ?_
  refine CallVC.same (rLead32_ok x.la cum hla.1 hla.2 hcu.1 hcu.2) ?_
  simp only [f6, go_sem]
  repeat refine sd2 ?_
  refine ⟨okDyn_num (fun x => x.i) (by kernel_rfl), ?_⟩
  repeat refine sd2 ?_
  exact PostF.rs (v0 := .tup [.agg [.fs 1 (out.map eI), .fs 1 (inn.map eI), .fs 8 (ps.map Dat.row), .int .i64 num, .int .i64 seen, .fs 1 (asked.map eI)], .agg [.int .i64 2, .int .i64 x.n, .int .i64 0, .int .i64 6, .nilS], .int .i64 0]) (.inr rfl)
 have f6 : decide (0 < lead x.la cum 32) = false := dF h6
 have hv : askedR ⟨out, inn, ps, num, seen, asked⟩ cum x = (⟨out, zeroAt inn x.ss x.ss.length, withoutG ps (inB x.ss), num, x.n, asked⟩, ⟨2, x.n, 0, 1, []⟩, 0) := by simp only [askedR, StX.chk, hc, hko, h2, h8, h9, h3, h4, h5, h6, ne_eq, not_true_eq_false, not_false_eq_true, true_and, if_false, Bool.true_eq_false]
 rw [hv, ansR_ok]
 simp only
 refine bdy Tryz.f30 ?_
 intro F3 hF1 hF2
 simp only [Tryz.f30, cx, StX.v, Rst.v, rstP, strV, go_sem, meths]
 refine CallVC.same (hri _ _ _) ?_
 simp only [go_sem]
 repeat refine sd2 ?_
 refine CallVC.same (hpr _ _ _) ?_
 rw [hkk]
 simp only [f2, Nat.add_zero, go_sem]
 repeat refine sd2 ?_
 refine CallVC.same (rWide_ok cum) ?_
 rw [h8]
 simp only [List.length_map, go_sem]
 repeat refine sd2 ?_
 refine CallVC.same (rListed_ok x.ss inn.length (by omega)) ?_
 rw [h9]
 simp only [f3, f4, go_sem]
 repeat refine sd2 ?_
 refine CallVC.same (rLead32_ok x.n seen hxn.1 hxn.2 hsn.1 hsn.2) ?_
 simp only [f5, go_sem]
 repeat refine sd2 ?_
 refine CallVC.same (rLead32_ok x.la cum hla.1 hla.2 hcu.1 hcu.2) ?_
 simp only [f6, go_sem]
 repeat refine sd2 ?_
 refine CallVC.same (hco _ _ _) ?_
 simp only [go_sem]
 repeat refine sd2 ?_
 refine loopK.intro _ _ (I := fun y : AkX => ⟨[none, none, none, some (.ptr ⟨L + 1, 0⟩ 0 0), none, some (.ptr ⟨L + 1, 32⟩ 0 0), some (.ptr ⟨L + 1, 64⟩ 0 0), some (.ptr ⟨L + 1, 96⟩ 0 0), none, some (.sl ⟨L + 1, y.q⟩ 0 (kept (inB x.ss) ps y.j).length), some (.int .i64 y.j), none, none, none, none, none, none, none, none, none, none, none, none, none, none, none, none, none, none, none, none, none, none, none, none, none, none, none, none, none, none, none, none, none, none, none, none, none, none, none, none, none, none, none, none, none, none, none, none, none, none, none, none, none, none, none, none, none, none, none, none, none, none, none, none, none, none, none, none, none, none, none, none, none, none, none, none, none, none, none, none, none, none, none, none, none, none, none, none, none, none, none, none, none, none, none, none, none, none, none, none, none, none, none, none, none, none, none, none, none, none, none, none, none, none, none, none, none],
  [(⟨L + 1, 0⟩, .rows 41 6 true false [[.sl ⟨L + 1, 1632⟩ 0 out.length, .sl ⟨L + 1, 1633⟩ 0 inn.length, .sl ⟨L + 1, 1634⟩ 0 ps.length, .int .i64 num, .int .i64 seen, .sl ⟨L + 1, 1635⟩ 0 asked.length]]), (⟨L + 1, 32⟩, .rows 75 5 true true [[.int .i64 x.k, .int .i64 x.n, .int .i64 x.la, .int .i64 x.r, .fs 1 (x.ss.map eI)]]), (⟨L + 1, 64⟩, .rows 41 6 true true [[.nilS, .nilS, .nilS, .int .i64 0, .int .i64 0, .nilS]]), (⟨L + 1, 96⟩, .rows 75 5 true true [[.int .i64 0, .int .i64 0, .int .i64 0, .int .i64 0, .nilS]]), (⟨L + 1, 1632⟩, .rows 3 1 true true (out.map eI)), (⟨L + 1, 1633⟩, .rows 3 1 true true (inn.map eI)), (⟨L + 1, 1635⟩, .rows 3 1 true true (asked.map eI)), (⟨L + 1, 1634⟩, .rows 32 8 true true (ps.map Dat.row)), (⟨L + 1, y.q⟩, .rows 32 8 true true ((kept (inB x.ss) ps y.j).map Dat.row))], 10000 * (y.i + 1)⟩)
  (pre := fun y => y.j ≤ ps.length ∧ 200 ≤ y.i ∧ 1732 ≤ y.q ∧ y.q < 10000 * (y.i + 1)) (μ := fun y => ps.length - y.j) ⟨0, 1732, 200⟩ ⟨by simp, by simp, by simp, by simp⟩ ?_ ?_
 ·have e0 : kept (inB x.ss) ps 0 = [] := rfl
  refine Sub.trans (Sub.nilName 9 32 (wd := 8) (by omega) rfl) ?_
  refine Sub.of (hfz hF2) (by simp only [e0, List.length_nil, go_sem, subT, and_self, Int.natCast_zero]) ?_ (by simp [subK, keys, updH, setH]) (by simp)
  simp [subH, Tx.look, updH, setH, e0]
 ·rintro ⟨j, q, i⟩ ⟨hj0, hi, hq1, hq2⟩
  simp only at hj0 hi hq1 hq2 ⊢
  have nd1 : ∀ k, k < 2000000 → (10000 * (i + 1) = k) = False := fun k h => by apply eq_false; omega
  have nd2 : ∀ k, k < 2000000 → (k = 10000 * (i + 1)) = False := fun k h => by apply eq_false; omega
  have q_0 : (q = 0) = False := by apply eq_false; omega
  have n0_q : (0 = q) = False := by apply eq_false; omega
  have q_32 : (q = 32) = False := by apply eq_false; omega
  have n32_q : (32 = q) = False := by apply eq_false; omega
  have q_64 : (q = 64) = False := by apply eq_false; omega
  have n64_q : (64 = q) = False := by apply eq_false; omega
  have q_96 : (q = 96) = False := by apply eq_false; omega
  have n96_q : (96 = q) = False := by apply eq_false; omega
  have q_1632 : (q = 1632) = False := by apply eq_false; omega
  have n1632_q : (1632 = q) = False := by apply eq_false; omega
  have q_1633 : (q = 1633) = False := by apply eq_false; omega
  have n1633_q : (1633 = q) = False := by apply eq_false; omega
  have q_1634 : (q = 1634) = False := by apply eq_false; omega
  have n1634_q : (1634 = q) = False := by apply eq_false; omega
  have q_1635 : (q = 1635) = False := by apply eq_false; omega
  have n1635_q : (1635 = q) = False := by apply eq_false; omega
  have q_n1 : ∀ kk, (10000 * (i + 1) + kk = q) = False := fun kk => by apply eq_false; omega
  have q_n2 : ∀ kk, (q = 10000 * (i + 1) + kk) = False := fun kk => by apply eq_false; omega
  have q_n3 : (10000 * (i + 1) = q) = False := by apply eq_false; omega
  have q_n4 : (q = 10000 * (i + 1)) = False := by apply eq_false; omega
  have q_n5 : ∀ kk, ((⟨L + 1, q⟩ : Nm) == ⟨L + 1, 10000 * (i + 1) + kk⟩) = false := fun kk => by simp; omega
  have hkl := kept_len (inB x.ss) ps j
  by_cases hj : j < ps.length
  ·have f7 : decide ((j : Int) < (ps.length : Int)) = true := dT (by omega)
   have r0 := rowD hj
   have hks := kept_succ (h := inB x.ss) hj
   obtain ⟨d, hd⟩ : ∃ d, d = ps[j] := ⟨_, rfl⟩
   rw [← hd] at r0 hks
   obtain ⟨U, hU⟩ : ∃ K, K = kept (inB x.ss) ps j := ⟨_, rfl⟩
   rw [← hU] at hks hkl ⊢
   have hha := fun F L nx => has_ok (F := F) (L := L) (nx := nx) x.ss d.st (by omega)
   rw [show x.ss.any (hasP d.st) = inB x.ss d from rfl] at hha
   simp only [f7, r0, Dat.row, Int.toNat_natCast, n0_q, n32_q, n1634_q, Nat.add_assoc, List.length_map, go_sem]
   repeat refine sd2 ?_
   refine CallVC.same (hha _ _ _) ?_
   cases hb : inB x.ss d with
   | true =>
    rw [hb] at hks
    have e1 : kept (inB x.ss) ps (j + 1) = U := by rw [hks]; simp
    simp only [Nat.add_assoc, go_sem]
    repeat refine sd2 ?_
    refine ⟨okDyn_num (fun x => x.i % 10000) (by simp only [numF, List.map, Nat.reduceMod]; kernel_rfl), ?_⟩
    repeat refine sd2 ?_
    refine ⟨⟨j + 1, q, i + 1⟩, ⟨by simp only []; omega, by simp only []; omega, by simp only []; omega, by simp only []; omega⟩, by simp only []; omega, ?_⟩
    refine Sub.of (hfz hF2) (by simp only [e1, go_sem, subT, and_self, Int.natCast_succ]) ?_ (by simp [subK, keys]) (by simp only []; omega)
    simp only [e1]
    simp [subH, Tx.look, q_0, q_32, q_64, q_96, q_1632, q_1633, q_1634, q_1635]
   | false =>
    rw [hb] at hks
    have e1 : (kept (inB x.ss) ps (j + 1)).map Dat.row = U.map Dat.row ++ [[.int .i64 d.tsn, .int .i64 d.st, .int .i64 d.sq, .int .i64 d.pr, .bool d.fi, .bool d.la, .bool d.lo, .str d.pl]] := by rw [hks]; simp [Dat.row]
    have e2 : (kept (inB x.ss) ps (j + 1)).length = U.length + 1 := by rw [hks]; simp
    simp only [r0, Dat.row, Int.toNat_natCast, q_0, n0_q, q_32, q_64, q_96, q_1632, q_1633, q_1634, n1634_q, q_1635, q_n1, q_n2, q_n5, nd1, nS2, Nat.add_assoc, List.length_map, go_sem]
    repeat refine sd2 ?_
    refine ⟨okDyn_num (fun x => x.i % 10000) (by simp only [numF, List.map, Nat.reduceMod]; kernel_rfl), ?_⟩
    repeat refine sd2 ?_
    refine ⟨⟨j + 1, 10000 * (i + 1) + 672, i + 1⟩, ⟨by simp only []; omega, by simp only []; omega, by simp only []; omega, by simp only []; omega⟩, by simp only []; omega, ?_⟩
    refine Sub.of (hfz hF2) (by simp only [e2, go_sem, subT, and_self, Int.natCast_succ]) ?_ (by simp [subK, keys]) (by simp only []; omega)
    simp only [e1, go_sem]
    simp [subH, Tx.look, q_n1, nd1]
  ·have f7 : decide ((j : Int) < (ps.length : Int)) = false := dF (by omega)
   have e : j = ps.length := by omega
   subst e
   rw [kept_all]
   obtain ⟨P2, hP2⟩ : ∃ P, P = withoutG ps (inB x.ss) := ⟨_, rfl⟩
   rw [← hP2]
   simp only [f7, n0_q, Nat.add_assoc, go_sem]
   repeat refine sd2 ?_
   refine loopK.intro _ _ (I := fun y : AkY => ⟨[none, none, none, some (.ptr ⟨L + 1, 0⟩ 0 0), none, some (.ptr ⟨L + 1, 32⟩ 0 0), some (.ptr ⟨L + 1, 64⟩ 0 0), some (.ptr ⟨L + 1, 96⟩ 0 0), none, some (.sl ⟨L + 1, q⟩ 0 P2.length), none, some (.int .i64 y.j), none, none, none, none, none, none, none, none, none, none, none, none, none, none, none, none, none, none, none, none, none, none, none, none, none, none, none, none, none, none, none, none, none, none, none, none, none, none, none, none, none, none, none, none, none, none, none, none, none, none, none, none, none, none, none, none, none, none, none, none, none, none, none, none, none, none, none, none, none, none, none, none, none, none, none, none, none, none, none, none, none, none, none, none, none, none, none, none, none, none, none, none, none, none, none, none, none, none, none, none, none, none, none, none, none, none, none, none, none, none, none, none, none, none, none, none],
    [(⟨L + 1, 0⟩, .rows 41 6 true false [[.sl ⟨L + 1, 1632⟩ 0 out.length, .sl ⟨L + 1, 1633⟩ 0 inn.length, .sl ⟨L + 1, 1634⟩ 0 ps.length, .int .i64 num, .int .i64 seen, .sl ⟨L + 1, 1635⟩ 0 asked.length]]), (⟨L + 1, 32⟩, .rows 75 5 true true [[.int .i64 x.k, .int .i64 x.n, .int .i64 x.la, .int .i64 x.r, .fs 1 (x.ss.map eI)]]), (⟨L + 1, 64⟩, .rows 41 6 true true [[.nilS, .nilS, .nilS, .int .i64 0, .int .i64 0, .nilS]]), (⟨L + 1, 96⟩, .rows 75 5 true true [[.int .i64 0, .int .i64 0, .int .i64 0, .int .i64 0, .nilS]]), (⟨L + 1, 1632⟩, .rows 3 1 true true (out.map eI)), (⟨L + 1, 1633⟩, .rows 3 1 true true ((zeroAt inn x.ss y.j).map eI)), (⟨L + 1, 1635⟩, .rows 3 1 true true (asked.map eI)), (⟨L + 1, q⟩, .rows 32 8 true true (P2.map Dat.row))], 10000 * (y.i + 1)⟩)
    (pre := fun y => y.j ≤ x.ss.length ∧ 200 ≤ y.i ∧ q < 10000 * (y.i + 1)) (μ := fun y => x.ss.length - y.j) ⟨0, i + 1⟩ ⟨by simp, by simp only []; omega, by simp only []; omega⟩ ?_ ?_
   ·refine Sub.o hF2 ?_
    simp [subH, Tx.look, zeroAt_0, q_0, q_32, q_64, q_96, q_1632, q_1633, q_1634, q_1635]
   ·clear nd1 nd2 hq2 hi q_n1 q_n2 q_n3 q_n4 q_n5 i
    rintro ⟨j, i⟩ ⟨hj0, hi, hq2⟩
    simp only at hj0 hi hq2 ⊢
    have nd1 : ∀ k, k < 2000000 → (10000 * (i + 1) = k) = False := fun k h => by apply eq_false; omega
    have nd2 : ∀ k, k < 2000000 → (k = 10000 * (i + 1)) = False := fun k h => by apply eq_false; omega
    have q_0 : (q = 0) = False := by apply eq_false; omega
    have n0_q : (0 = q) = False := by apply eq_false; omega
    have q_32 : (q = 32) = False := by apply eq_false; omega
    have n32_q : (32 = q) = False := by apply eq_false; omega
    have q_64 : (q = 64) = False := by apply eq_false; omega
    have n64_q : (64 = q) = False := by apply eq_false; omega
    have q_96 : (q = 96) = False := by apply eq_false; omega
    have n96_q : (96 = q) = False := by apply eq_false; omega
    have q_1632 : (q = 1632) = False := by apply eq_false; omega
    have n1632_q : (1632 = q) = False := by apply eq_false; omega
    have q_1633 : (q = 1633) = False := by apply eq_false; omega
    have n1633_q : (1633 = q) = False := by apply eq_false; omega
    have q_1634 : (q = 1634) = False := by apply eq_false; omega
    have n1634_q : (1634 = q) = False := by apply eq_false; omega
    have q_1635 : (q = 1635) = False := by apply eq_false; omega
    have n1635_q : (1635 = q) = False := by apply eq_false; omega
    have q_n1 : ∀ kk, (10000 * (i + 1) + kk = q) = False := fun kk => by apply eq_false; omega
    have q_n2 : ∀ kk, (q = 10000 * (i + 1) + kk) = False := fun kk => by apply eq_false; omega
    have q_n3 : (10000 * (i + 1) = q) = False := by apply eq_false; omega
    have q_n4 : (q = 10000 * (i + 1)) = False := by apply eq_false; omega
    have q_n5 : ∀ kk, ((⟨L + 1, q⟩ : Nm) == ⟨L + 1, 10000 * (i + 1) + kk⟩) = false := fun kk => by simp; omega
    have lz : ((zeroAt inn x.ss j).map eI).length = inn.length := by rw [List.length_map, zeroAt_len]
    by_cases hj : j < x.ss.length
    ·have f7 : decide ((j : Int) < (x.ss.length : Int)) = true := dT (by omega)
     obtain ⟨c1, c2⟩ := listedB_at h9 j hj
     have r0 := getD_eI x.ss hj
     have r1 := getD_eI (zeroAt inn x.ss j) (i := (x.ss.getD j 0).toNat) (by rw [zeroAt_len]; omega)
     simp only [f7, lz, r0, r1, eI, set_eI, ← zeroAt_succ _ _ _ hj, Int.toNat_natCast, n0_q, n32_q, n1633_q, Nat.add_assoc, List.length_map, go_sem]
     repeat refine sd2 ?_
     refine ⟨okDyn_num (fun x => x.i % 10000) (by simp only [numF, List.map, Nat.reduceMod]; kernel_rfl), ?_⟩
     repeat refine sd2 ?_
     refine ⟨⟨j + 1, i + 1⟩, ⟨by simp only []; omega, by simp only []; omega, by simp only []; omega⟩, by simp only []; omega, ?_⟩
     refine Sub.o hF2 ?_
     simp [subH, Tx.look, q_0, q_32, q_64, q_96, q_1632, q_1633, q_1635]
    ·have f7 : decide ((j : Int) < (x.ss.length : Int)) = false := dF (by omega)
     have e : j = x.ss.length := by omega
     subst e
     obtain ⟨Z, hZ⟩ : ∃ Z, Z = zeroAt inn x.ss x.ss.length := ⟨_, rfl⟩
     have hZl : Z.length = inn.length := by rw [hZ, zeroAt_len]
     rw [← hZ]
     simp only [f7, n0_q, n32_q, n64_q, n96_q, Nat.add_assoc, List.length_map, go_sem]
     repeat refine sd2 ?_
     refine ⟨okDyn_num (fun x => x.i % 10000) (by simp only [numF, List.map, Nat.reduceMod]; kernel_rfl), ?_⟩
     repeat refine sd2 ?_
     exact PostF.rs (v0 := .tup [.agg [.sl ⟨L + 1, 1632⟩ 0 out.length, .sl ⟨L + 1, 1633⟩ 0 inn.length, .sl ⟨L + 1, q⟩ 0 P2.length, .int .i64 num, .int .i64 x.n, .sl ⟨L + 1, 1635⟩ 0 asked.length], .agg [.int .i64 2, .int .i64 x.n, .int .i64 0, .int .i64 1, .nilS], .int .i64 0] ) (.inr rfl) (hw := by simp [Wk, WkL, Tx.look, List.take_of_length_le, hZl, q_0, q_32, q_64, q_96, q_1632, q_1633, q_1635])
end Go.Proofs.YtfhhbkehlfipgaaGreat
end
