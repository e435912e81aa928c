/- Lemmas for the walk: ZC67, ZC66, ZC68, ZD9, ZC69, ZC70, ZC40, ZC41, ZC42. -/
import Derived.Test.YtfhhbkehlfipgaaGreatP15
import Derived.Test.YtfhhbkehlfipgaaGreatP17
import Derived.Test.YtfhhbkehlfipgaaGreatP16
set_option linter.all false
section
namespace Go.Proofs.YtfhhbkehlfipgaaGreat
open Go.Tx
set_option maxRecDepth 100000
set_option maxHeartbeats 16000000
theorem rightMessage_ok {F : SF} {L nx : Nat} (m : Msg) (n : Nat) (hm : m.tx.length ≤ 1000000) : Con Tryz.prog 15 [.agg m.row, .int .i64 n] F L nx nx (.bool (msgB n m)) [] [] := by
 refine Con.body (cxOk (L + 1)) rfl rfl (fn := Tryz.f15) (c := Tryz.f15.body.getD .skip) (by kernel_rfl) (by rfl) (by kernel_rfl) rfl (by simp) ?_
 intro F3 hF1 hF2
 cases a1 : decide (0 ≤ m.st) with
 | false =>
  simp only [Tryz.f15, cx, Msg.row, a1, Nat.add_zero, go_sem, meths]
  exact .bool (.inr rfl) rfl (by simp only [msgB, a1, Bool.false_and]) (by simp [UpdAll])
 | true =>
 cases a2 : decide (m.st < (n : Int)) with
 | false =>
  simp only [Tryz.f15, cx, Msg.row, a1, a2, Nat.add_zero, go_sem, meths]
  exact .bool (.inr rfl) rfl (by simp only [msgB, a1, a2, Bool.false_and, Bool.and_false]) (by simp [UpdAll])
 | true =>
 simp only [Tryz.f15, cx, Msg.row, a1, a2, Nat.add_zero, go_sem, meths]
 refine CallVC.same (rWide_ok m.pr) ?_
 cases a3 : serB 32 m.pr with
 | false =>
  simp only [go_sem]
  exact .bool (.inr rfl) rfl (by simp only [msgB, a1, a2, a3, Bool.false_and, Bool.and_false]) (by simp [UpdAll])
 | true =>
 have h4 : decide (1 ≤ (m.tx.length : Int)) = decide (1 ≤ m.tx.length) := by rw [Bool.eq_iff_iff]; simp; omega
 have h5 : decide ((m.tx.length : Int) ≤ 8000) = decide (m.tx.length ≤ 8000) := by rw [Bool.eq_iff_iff]; simp; omega
 cases a4 : decide (1 ≤ m.tx.length) with
 | false =>
  rw [a4] at h4
  simp only [h4, go_sem]
  exact .bool (.inr rfl) rfl (by simp only [msgB, a1, a2, a3, a4, Bool.false_and, Bool.and_false]) (by simp [UpdAll])
 | true =>
 rw [a4] at h4
 cases a5 : decide (m.tx.length ≤ 8000) with
 | false =>
  rw [a5] at h5
  simp only [h4, h5, go_sem]
  exact .bool (.inr rfl) rfl (by simp only [msgB, a1, a2, a3, a4, a5, Bool.and_false]) (by simp [UpdAll])
 | true =>
  rw [a5] at h5
  simp only [h4, h5, go_sem]
  exact .bool (.inr rfl) rfl (by simp only [msgB, a1, a2, a3, a4, a5, Bool.and_true]) (by simp [UpdAll])
theorem newBad_ok {F : SF} {L nx : Nat} (n m : Int) (h : ¬ (1 ≤ n ∧ n ≤ 16 ∧ 1 ≤ m ∧ m ≤ 16)) :
  Con Tryz.prog 7 [.int .i64 n, .int .i64 m] F L nx nx (.tup [strZ, .int .i64 2]) [] [] := by
 refine Con.body (cxOk (L + 1)) rfl rfl (fn := Tryz.f7) (c := Tryz.f7.body.getD .skip) (by kernel_rfl) (by rfl) (by kernel_rfl) rfl (by simp) ?_
 intro F3 hF1 hF2
 cases f1 : decide (n < 1) with
 | true =>
  simp only [Tryz.f7, cx, strZ, f1, go_sem, meths]
  exact PostF.of (p := True) (v0 := .tup [.agg [.nilS, .nilS, .nilS, .int .i64 0, .int .i64 0, .nilS], .int .i64 2]) (.inr rfl) (by simp only [resVal, resVals, resVal1, one, go_sem]) trivial (by simp [Wk, WkL]) (by simp [wkN, wkNL]) (by simp [Tx.nf, nfl]) trivial (by simp [UpdAll, keys])
 | false =>
 cases f2 : decide (16 < n) with
 | true =>
  simp only [Tryz.f7, cx, strZ, f1, f2, go_sem, meths]
  exact PostF.of (p := True) (v0 := .tup [.agg [.nilS, .nilS, .nilS, .int .i64 0, .int .i64 0, .nilS], .int .i64 2]) (.inr rfl) (by simp only [resVal, resVals, resVal1, one, go_sem]) trivial (by simp [Wk, WkL]) (by simp [wkN, wkNL]) (by simp [Tx.nf, nfl]) trivial (by simp [UpdAll, keys])
 | false =>
 cases f3 : decide (m < 1) with
 | true =>
  simp only [Tryz.f7, cx, strZ, f1, f2, f3, go_sem, meths]
  exact PostF.of (p := True) (v0 := .tup [.agg [.nilS, .nilS, .nilS, .int .i64 0, .int .i64 0, .nilS], .int .i64 2]) (.inr rfl) (by simp only [resVal, resVals, resVal1, one, go_sem]) trivial (by simp [Wk, WkL]) (by simp [wkN, wkNL]) (by simp [Tx.nf, nfl]) trivial (by simp [UpdAll, keys])
 | false =>
 cases f4 : decide (16 < m) with
 | true =>
  simp only [Tryz.f7, cx, strZ, f1, f2, f3, f4, go_sem, meths]
  exact PostF.of (p := True) (v0 := .tup [.agg [.nilS, .nilS, .nilS, .int .i64 0, .int .i64 0, .nilS], .int .i64 2]) (.inr rfl) (by simp only [resVal, resVals, resVal1, one, go_sem]) trivial (by simp [Wk, WkL]) (by simp [wkN, wkNL]) (by simp [Tx.nf, nfl]) trivial (by simp [UpdAll, keys])
 | false =>
  exfalso
  simp only [decide_eq_false_iff_not] at f1 f2 f3 f4
  omega
theorem sameData_ok {F : SF} {L nx : Nat} (ps : List Dat) (ha : ps.length ≤ 1000000) :
  Con Tryz.prog 18 [.fs 8 (ps.map Dat.row), .fs 8 (ps.map Dat.row)] F L nx nx (.bool true) [] [] := by
 refine Con.body (cxOk (L + 1)) rfl rfl (fn := Tryz.f18) (c := Tryz.f18.body.getD .skip) (by kernel_rfl) (by rfl) (by kernel_rfl) rfl (by simp) ?_
 intro F3 hF1 hF2
 have f0 : ((ps.length : Int) != (ps.length : Int)) = false := by simp
 simp only [Tryz.f18, cx, f0, List.length_map, go_sem, meths]
 refine loopK.intro _ _ (I := fun i : Nat => ⟨[some (.fs 8 (ps.map Dat.row)), some (.fs 8 (ps.map Dat.row)), none, none, none, some (.int .i64 i), none, none, none, none, none, none, none, none, none, none, none, none, none, none, none, none, none, none, none, none], [], 10000 * (i + 1)⟩) (pre := fun i => i ≤ ps.length) (μ := fun i => ps.length - i) 0 (by omega) ?_ ?_
 ·exact Sub.of (fun n hn => hF2 n (by have : n.l = L + 1 := hn; omega)) (by simp only [go_sem, subT, and_self, Int.natCast_zero]) trivial trivial (by simp)
 ·intro i hi
  by_cases hlt : i < ps.length
  ·have f1 : decide ((i : Int) < (ps.length : Int)) = true := dT (by omega)
   have r0 := rowD hlt
   simp only [f1, r0, Dat.row, beq_self_eq_true, List.length_map, Nat.add_assoc, go_sem]
   repeat refine And.intro (by first | omega | exact ⟨by omega, by omega⟩ | exact okDyn_num (fun x => x.i) (by kernel_rfl) | kernel_rfl | exact okDyn_num (fun _ => 0) (by kernel_rfl)) ?_
   refine ⟨i + 1, by omega, by omega, ?_⟩
   exact Sub.of (fun n hn => hF2 n (by have : n.l = L + 1 := hn; omega)) (by simp only [go_sem, subT, and_self, Int.natCast_succ]) trivial trivial (by simp only []; omega)
  ·have f1 : decide ((i : Int) < (ps.length : Int)) = false := dF (by omega)
   simp only [f1, List.length_map, Nat.add_assoc, go_sem]
   exact .bool (.inr rfl) rfl rfl (by simp [UpdAll])
theorem sameS_ok {F : SF} {L nx : Nat} (out inn asked : List Int) (num seen : Int) (ps : List Dat) (h1 : out.length ≤ 1000000) (h2 : inn.length ≤ 1000000) (h3 : asked.length ≤ 1000000) (h4 : ps.length ≤ 1000000) :
  Con Tryz.prog 8 [strV out inn num seen asked ps, strV out inn num seen asked ps] F L nx nx (.bool true) [] [] := by
 refine Con.body (cxOk (L + 1)) rfl rfl (fn := Tryz.f8) (c := Tryz.f8.body.getD .skip) (by kernel_rfl) (by rfl) (by kernel_rfl) rfl (by simp) ?_
 intro F3 hF1 hF2
 have f1 : (num == num) = true := by simp
 have f2 : (seen == seen) = true := by simp
 simp only [Tryz.f8, cx, strV, Nat.add_zero, go_sem, meths]
 refine CallVC.same (ints_ok out out h1 h1) ?_
 simp only [beq_self_eq_true, go_sem]
 refine CallVC.same (ints_ok inn inn h2 h2) ?_
 simp only [beq_self_eq_true, go_sem]
 refine CallVC.same (ints_ok asked asked h3 h3) ?_
 simp only [beq_self_eq_true, go_sem]
 refine CallVC.same (sameData_ok ps h4) ?_
 simp only [f1, f2, go_sem]
 exact .bool (.inr rfl) rfl rfl (by simp [UpdAll])
theorem refDueN_ok {F : SF} {L nx : Nat} (m mo ma : Nm) (ol al : Nat) (hm : m.l ≤ L) (hmo : mo.l ≤ L) (hma : ma.l ≤ L) (inn : List Int) (num seen : Int) (ps : List Dat) (hlen : ps.length ≤ 80) (hall : ∀ x ∈ ps, x.ok = true) (hst : ∀ x ∈ ps, x.st < inn.length) (hnd : (ps.map Dat.tsn).Nodup) (hil : inn.length ≤ 1000000) (hFm : F m = some (.rows 3 1 true true (inn.map eI))) :
  Con Tryz.prog 48 [.agg [.sl mo 0 ol, .sl m 0 inn.length, .fs 8 (ps.map Dat.row), .int .i64 num, .int .i64 seen, .sl ma 0 al]] F L nx nx (.fs 1 (((numsC (dueG inn ps)).map (plI ps)).map eI)) [] [m] := by
 have hcm := fun F L nx m hm => refComplete_ok (F := F) (L := L) (nx := nx) ps hlen hall hnd m hm
 refine Con.body (cxOk (L + 1)) rfl rfl (fn := Tryz.f48) (c := Tryz.f48.body.getD .skip) (by kernel_rfl) (by rfl) (by kernel_rfl) rfl  (by simp; omega) ?_
 intro F3 hF1 hF2
 have hFm := (hF1 m (by simp)).trans hFm
 have q7 := nm_out' hm
 have q8 := nm_out hm
 simp only [Tryz.f48, cx, go_sem, meths]
 refine loopK.intro _ _ (I := fun i : Nat => ⟨[none, some (.ptr ⟨L + 1, 0⟩ 0 0), none, some (.int .i64 i), none, none, none, none, none, none, none, none, none, none, none, none, none, none, none, none, none, none, none, none, none, none, none, none, none, none, none, none, none, none, none, none, none, none, none], [(⟨L + 1, 0⟩, .rows 41 6 true false [[.sl mo 0 ol, .sl m 0 inn.length, .fs 8 (ps.map Dat.row), .int .i64 num, .int .i64 seen, .sl ma 0 al]])], 10000 * (i + 1)⟩)
  (pre := fun i => i ≤ ps.length ∧ dueG inn ps = (ps.drop i).findSome? (dueF inn ps)) (μ := fun i => ps.length - i) 0 ⟨by omega, rfl⟩ ?_ ?_
 ·refine Sub.of (fun n hn => hF2 n (by have : n.l = L + 1 := hn; omega)) (by simp only [go_sem, subT, and_self, Int.natCast_zero]) ?_ (by simp [subK, keys]) (by simp)
  simp [subH, Tx.look]
 ·rintro i ⟨hi, hdi⟩
  by_cases hlt : i < ps.length
  ·have f1 : decide ((i : Int) < (ps.length : Int)) = true := dT (by omega)
   have r0 := rowD hlt
   have hd := List.getElem_mem hlt
   have hdr : ps.drop i = ps[i] :: ps.drop (i + 1) := List.drop_eq_getElem_cons hlt
   rw [hdr, List.findSome?_cons] at hdi
   have hc := fun F L nx => hcm F L nx i hlt
   obtain ⟨d, hdd⟩ : ∃ d, d = ps[i] := ⟨_, rfl⟩
   rw [← hdd] at r0 hd hdi
   simp only [← hdd] at hc
   have hok := Dat.ok_bounds (hall d hd)
   have hs2 := hst d hd
   have r1 := getD_eI inn (i := d.st.toNat) (by omega)
   have key : dueF inn ps d = none → (∃ y, (y ≤ ps.length ∧ dueG inn ps = (ps.drop y).findSome? (dueF inn ps)) ∧ ps.length - y < ps.length - i ∧ y = i + 1) := fun h => ⟨i + 1, ⟨by omega, by rw [hdi, h]⟩, by omega, rfl⟩
   have f0 : decide ((0 : Int) < ((0 : Nat) : Int)) = false := rfl
   cases hlo : d.lo with
   | true =>
    have hgd : dueF inn ps d = complete ps d := by simp [dueF, hlo]
    simp only [f1, r0, hlo, Dat.row, Int.toNat_natCast, List.length_map, Nat.add_assoc, go_sem]
    repeat refine And.intro (by first | omega | exact ⟨by omega, by omega⟩ | exact okDyn_num (fun x => x.i) (by kernel_rfl) | kernel_rfl | exact okDyn_num (fun _ => 0) (by kernel_rfl)) ?_
    refine CallVC.same (hc _ _ _) ?_
    cases hcc : complete ps d with
    | none =>
     rw [hgd, hcc] at hdi
     simp only [numsC, List.map_nil, f0, Nat.add_assoc, go_sem]
     repeat refine And.intro (by first | omega | exact ⟨by omega, by omega⟩ | exact okDyn_num (fun x => x.i) (by kernel_rfl) | kernel_rfl | exact okDyn_num (fun _ => 0) (by kernel_rfl)) ?_
     refine ⟨i + 1, ⟨by omega, hdi⟩, by omega, ?_⟩
     refine Sub.of (fun n hn => hF2 n (by have : n.l = L + 1 := hn; omega)) (by simp only [go_sem, subT, and_self, Int.natCast_succ]) ?_ (by simp [subK, keys]) (by simp only []; omega)
     simp [subH, Tx.look]
    | some r =>
     obtain ⟨m, ns⟩ := r
     rw [hgd, hcc] at hdi
     rw [hdi]
     have f2 : decide ((0 : Int) < (ns.length : Int)) = true := dT (by have := complete_ne hcc; omega)
     simp only [numsC, f2, List.length_map, Nat.add_assoc, go_sem]
     exact PostF.of (p := True) (v0 := .fs 1 ((ns.map (plI ps)).map eI)) (.inr rfl) (by simp only [resVal, resVals, resVal1, one, go_sem]) trivial (by simp [Wk]) (by simp [wkN]) (by simp [Tx.nf]) trivial (by simp [UpdAll, keys])
   | false =>
    cases hsq : d.sq == inn.getD d.st.toNat 0 with
    | false =>
     have hgd : dueF inn ps d = none := by simp only [dueF, hlo, bne, hsq]; rfl
     rw [hgd] at hdi
     simp only [f1, r0, r1, eI, hlo, hsq, Dat.row, Int.toNat_natCast, List.length_map, hFm, q8, Nat.add_assoc, go_sem]
     repeat refine And.intro (by first | omega | exact ⟨by omega, by omega⟩ | exact okDyn_num (fun x => x.i) (by kernel_rfl) | kernel_rfl | exact okDyn_num (fun _ => 0) (by kernel_rfl)) ?_
     refine ⟨i + 1, ⟨by omega, hdi⟩, by omega, ?_⟩
     refine Sub.of (fun n hn => hF2 n (by have : n.l = L + 1 := hn; omega)) (by simp only [go_sem, subT, and_self, Int.natCast_succ]) ?_ (by simp [subK, keys]) (by simp only []; omega)
     simp [subH, Tx.look]
    | true =>
     have hgd : dueF inn ps d = complete ps d := by simp only [dueF, hlo, bne, hsq]; rfl
     simp only [f1, r0, r1, eI, hlo, hsq, Dat.row, Int.toNat_natCast, List.length_map, hFm, q8, Nat.add_assoc, go_sem]
     repeat refine And.intro (by first | omega | exact ⟨by omega, by omega⟩ | exact okDyn_num (fun x => x.i) (by kernel_rfl) | kernel_rfl | exact okDyn_num (fun _ => 0) (by kernel_rfl)) ?_
     refine CallVC.same (hc _ _ _) ?_
     cases hcc : complete ps d with
     | none =>
      rw [hgd, hcc] at hdi
      simp only [numsC, List.map_nil, f0, Nat.add_assoc, go_sem]
      repeat refine And.intro (by first | omega | exact ⟨by omega, by omega⟩ | exact okDyn_num (fun x => x.i) (by kernel_rfl) | kernel_rfl | exact okDyn_num (fun _ => 0) (by kernel_rfl)) ?_
      refine ⟨i + 1, ⟨by omega, hdi⟩, by omega, ?_⟩
      refine Sub.of (fun n hn => hF2 n (by have : n.l = L + 1 := hn; omega)) (by simp only [go_sem, subT, and_self, Int.natCast_succ]) ?_ (by simp [subK, keys]) (by simp only []; omega)
      simp [subH, Tx.look]
     | some r =>
      obtain ⟨m, ns⟩ := r
      rw [hgd, hcc] at hdi
      rw [hdi]
      have f2 : decide ((0 : Int) < (ns.length : Int)) = true := dT (by have := complete_ne hcc; omega)
      simp only [numsC, f2, List.length_map, Nat.add_assoc, go_sem]
      exact PostF.of (p := True) (v0 := .fs 1 ((ns.map (plI ps)).map eI)) (.inr rfl) (by simp only [resVal, resVals, resVal1, one, go_sem]) trivial (by simp [Wk]) (by simp [wkN]) (by simp [Tx.nf]) trivial (by simp [UpdAll, keys])
  ·have f1 : decide ((i : Int) < (ps.length : Int)) = false := dF (by omega)
   have e4 : dueG inn ps = none := by rw [hdi, List.drop_of_length_le (by omega)]; rfl
   rw [e4]
   simp only [f1, numsC, List.map_nil, List.length_map, Nat.add_assoc, go_sem]
   exact PostF.of (p := True) (v0 := .nilS) (.inr rfl) (by simp only [resVal, resVals, resVal1, one, go_sem]) trivial (by simp [Wk]) (by simp [wkN]) (by simp [Tx.nf]) trivial (by simp [UpdAll, keys])
structure RnX where
 i : Nat
 q : Nat
def kept (h : Dat → Bool) (ps : List Dat) (i : Nat) : List Dat := withoutG (ps.take i) h
theorem kept_succ {h : Dat → Bool} {ps : List Dat} {i : Nat} (hi : i < ps.length) : kept h ps (i + 1) = kept h ps i ++ (if h ps[i] then [] else [ps[i]]) := by
 unfold kept withoutG
 rw [List.take_succ_eq_append_getElem hi, List.filter_append]
 cases hb : h ps[i] <;> simp [hb]
theorem kept_len (h : Dat → Bool) (ps : List Dat) (i : Nat) : (kept h ps i).length ≤ i := by
 unfold kept withoutG
 exact Nat.le_trans (List.length_filter_le _ _) (by simp; omega)
theorem kept_all (h : Dat → Bool) (ps : List Dat) : kept h ps ps.length = withoutG ps h := by simp [kept]
theorem refNext_ok {F : SF} {L nx : Nat} (m mo ma : Nm) (ol al : Nat) (hm : m.l < L ∨ (m.l = L ∧ m.i < nx)) (hmo : mo.l ≤ L) (hma : ma.l ≤ L) (num seen : Int) (st sq : Int) (inn : List Int) (hi3 : inn.all (serB 16) = true) (hst0 : 0 ≤ st) (hst : st < inn.length) (hsq : 0 ≤ sq) (hsq2 : sq < 65536) (hil : inn.length ≤ 1000000) (ps : List Dat) (hlen : ps.length ≤ 1000) (hall : ∀ x ∈ ps, x.ok = true)
  (hFm : F m = some (.rows 3 1 true true (inn.map eI))) :
  Con Tryz.prog 101 [.agg [.sl mo 0 ol, .sl m 0 inn.length, .fs 8 (ps.map Dat.row), .int .i64 num, .int .i64 seen, .sl ma 0 al], .int .i64 st, .int .i64 sq] F L nx nx (.agg [.sl mo 0 ol, .sl m 0 inn.length, .fs 8 ((nextP inn ps st sq).map Dat.row), .int .i64 num, .int .i64 seen, .sl ma 0 al]) [(m, .rows 3 1 true true ((nextI inn st sq).map eI))] [m] := by
 show Con Tryz.prog 101 _ F L nx (nx + 0) _ _ _
 refine Con.bodyN (cxOk (L + 1)) rfl rfl (fn := Tryz.f101) (c := Tryz.f101.body.getD .skip) (by kernel_rfl) (by rfl) (by kernel_rfl) rfl  (by simp; omega) ?_
 intro F3 hF1 hF2
 have hFm := (hF1 m (by simp)).trans hFm
 have hml : m.l ≤ L := by omega
 have q7 := nm_out' hml
 have q8 := nm_out hml
 have r1 := getD_eI inn (i := st.toNat) (by omega)
 have h16 : (2 : Int) ^ (Int.toNat 16) = 65536 := rfl
 obtain ⟨inn2, hi2⟩ : ∃ x, x = nextI inn st sq := ⟨_, rfl⟩
 have hl2 : inn2.length = inn.length := by rw [hi2]; exact nextI_len _ _ _
 have e9 : inn.set st.toNat ((sq + 1) % 65536) = inn2 := hi2.symm
 have hi3' : inn2.all (serB 16) = true := by rw [hi2]; exact nextI_ser hi3 _ _
 have hin := serB16_at hi3' (k := st.toNat) (by omega)
 have r2 := getD_eI inn2 (i := st.toNat) (by omega)
 have enp : nextP inn ps st sq = kept (oldB inn2 st) ps ps.length := by rw [kept_all, hi2]; rfl
 rw [enp, ← hi2]
 simp only [Tryz.f101, cx, go_sem, meths]
 repeat refine And.intro (by first | omega | exact ⟨by omega, by omega⟩ | exact okS (by kernel_rfl)) ?_
 refine CallVC.same (behind16R_ok sq (by omega) (by omega)) ?_
 simp only [hFm, q8, r1, eI, set_eI, e9, List.length_map, go_sem]
 repeat refine And.intro (by first | omega | exact ⟨by omega, by omega⟩ | exact okS (by kernel_rfl)) ?_
 refine ⟨okDyn_num (fun x => if x = m then 1 else x.i + 100) (by simp only [numF, List.map, q7, if_true, if_false]; kernel_rfl), ?_⟩
 refine loopK.intro _ _ (I := fun z : RnX => ⟨[none, some (.int .i64 st), some (.int .i64 sq), some (.ptr ⟨L + 1, 0⟩ 0 0), none, none, some (.ptr ⟨L + 1, 32⟩ 0 0), some (.sl ⟨L + 1, z.q⟩ 0 (kept (oldB inn2 st) ps z.i).length), some (.int .i64 z.i), none, none, none, none, none, none, none, none, none, none, none, none, none, none, none, none, none, none, none, none, none, none, none, none, none, none, none, none, none, none, none, none, none, none, none, none, none, none, none, none, none, none, none, none, none],
  [(⟨L + 1, 0⟩, .rows 41 6 true false [[.sl mo 0 ol, .sl m 0 inn.length, .fs 8 (ps.map Dat.row), .int .i64 num, .int .i64 seen, .sl ma 0 al]]), (⟨L + 1, 32⟩, .rows 41 6 true true [[.nilS, .nilS, .nilS, .int .i64 0, .int .i64 0, .nilS]]), (m, .rows 3 1 true true (inn2.map eI)), (⟨L + 1, z.q⟩, .rows 32 8 true true ((kept (oldB inn2 st) ps z.i).map Dat.row))], 10000 * (z.i + 1)⟩)
  (pre := fun z => z.i ≤ ps.length ∧ 64 ≤ z.q ∧ z.q < 10000 * (z.i + 1)) (μ := fun z => ps.length - z.i) ⟨0, 320⟩ ⟨by simp, by simp, by simp⟩ ?_ ?_
 ·have e0 : kept (oldB inn2 st) ps 0 = [] := rfl
  refine Sub.trans (Sub.nilName 7 32 (wd := 8) (by omega) rfl) ?_
  refine Sub.of (fun n hn => hF2 n (by have : n.l = L + 1 := hn; omega)) (by simp only [e0, List.length_nil, go_sem, subT, and_self, Int.natCast_zero]) ?_ (by simp [subK, keys, updH, setH, q7, q8]) (by simp)
  simp [subH, Tx.look, updH, setH, e0, q7, q8]
 ·rintro ⟨i, q⟩ ⟨hi, k1, k2⟩
  simp only at hi k1 k2 ⊢
  have q_0 : (q = 0) = False := by apply eq_false; omega
  have n0_q : (0 = q) = False := by apply eq_false; omega
  have q_32 : (q = 32) = False := by apply eq_false; omega
  have n32_q : (32 = q) = False := by apply eq_false; omega
  have q_n1 : ∀ kk, (10000 * (i + 1) + kk = q) = False := fun kk => by apply eq_false; omega
  have q_n2 : ∀ kk, (q = 10000 * (i + 1) + kk) = False := fun kk => by apply eq_false; omega
  have q_n3 : (10000 * (i + 1) = q) = False := by apply eq_false; omega
  have q_n4 : (q = 10000 * (i + 1)) = False := by apply eq_false; omega
  have q_n5 : ∀ kk, ((⟨L + 1, q⟩ : Nm) == ⟨L + 1, 10000 * (i + 1) + kk⟩) = false := fun kk => by simp; omega
  have hkl := kept_len (oldB inn2 st) ps i
  by_cases hlt : i < ps.length
  ·have f1 : decide ((i : Int) < (ps.length : Int)) = true := dT (by omega)
   have r0 := rowD hlt
   have hks := kept_succ (h := oldB inn2 st) hlt
   have hok := Dat.ok_bounds (hall _ (List.getElem_mem hlt))
   obtain ⟨d, hd⟩ : ∃ d, d = ps[i] := ⟨_, rfl⟩
   rw [← hd] at r0 hks hok
   obtain ⟨K, hK⟩ : ∃ K, K = kept (oldB inn2 st) ps i := ⟨_, rfl⟩
   rw [← hK] at hks hkl ⊢
   have keep : oldB inn2 st d = false → (kept (oldB inn2 st) ps (i + 1)).map Dat.row = K.map Dat.row ++ [[.int .i64 d.tsn, .int .i64 d.st, .int .i64 d.sq, .int .i64 d.pr, .bool d.fi, .bool d.la, .bool d.lo, .str d.pl]] ∧ (kept (oldB inn2 st) ps (i + 1)).length = K.length + 1 := by
    intro h; rw [hks, h]; simp [Dat.row]
   have drop : oldB inn2 st d = true → kept (oldB inn2 st) ps (i + 1) = K := by
    intro h; rw [hks, h]; simp
   cases a1 : d.st == st with
   | false =>
    have b1 : (d.st != st) = true := by simp only [bne, a1, Bool.not_false]
    obtain ⟨e1, e2⟩ := keep (by simp only [oldB, a1, Bool.false_and])
    simp only [f1, r0, b1, Dat.row, Int.toNat_natCast, List.length_map, q_0, n0_q, q_32, q_n1, q_n2, q_n5, q7, nS2, Nat.add_assoc, go_sem]
    repeat refine And.intro (by first | omega | exact ⟨by omega, by omega⟩ | exact okS (by kernel_rfl)) ?_
    refine ⟨okDyn_num (fun x => if x = m then 1 else x.i % 10000 + 100) (by simp only [numF, List.map, q7, if_false, Nat.mul_add_mod, Nat.reduceMod, Nat.reduceAdd]; kernel_rfl), ?_⟩
    repeat refine And.intro (by first | omega | exact ⟨by omega, by omega⟩ | exact okS (by kernel_rfl)) ?_
    refine ⟨⟨i + 1, 10000 * (i + 1) + 736⟩, ⟨by simp only []; omega, by simp only []; omega, by simp only []; omega⟩, by simp only []; omega, ?_⟩
    refine Sub.of (fun n hn => hF2 n (by have : n.l = L + 1 := hn; omega)) (by simp only [e2, go_sem, subT, and_self, Int.natCast_succ]) ?_ (by simp [subK, keys]) (by simp only []; omega)
    simp only [e1]
    simp [subH, Tx.look, q_n1, q7, q8, nB]
   | true =>
    have b1 : (d.st != st) = false := by simp only [bne, a1, Bool.not_true]
    cases a2 : d.lo with
    | true =>
     obtain ⟨e1, e2⟩ := keep (by simp only [oldB, a1, a2, Bool.not_true, Bool.and_false, Bool.false_and])
     rw [a2] at e1
     simp only [f1, r0, b1, a2, Dat.row, Int.toNat_natCast, List.length_map, q_0, n0_q, q_32, q_n1, q_n2, q_n5, q7, nS2, Nat.add_assoc, go_sem]
     repeat refine And.intro (by first | omega | exact ⟨by omega, by omega⟩ | exact okS (by kernel_rfl)) ?_
     refine ⟨okDyn_num (fun x => if x = m then 1 else x.i % 10000 + 100) (by simp only [numF, List.map, q7, if_false, Nat.mul_add_mod, Nat.reduceMod, Nat.reduceAdd]; kernel_rfl), ?_⟩
     repeat refine And.intro (by first | omega | exact ⟨by omega, by omega⟩ | exact okS (by kernel_rfl)) ?_
     refine ⟨⟨i + 1, 10000 * (i + 1) + 800⟩, ⟨by simp only []; omega, by simp only []; omega, by simp only []; omega⟩, by simp only []; omega, ?_⟩
     refine Sub.of (fun n hn => hF2 n (by have : n.l = L + 1 := hn; omega)) (by simp only [e2, go_sem, subT, and_self, Int.natCast_succ]) ?_ (by simp [subK, keys]) (by simp only []; omega)
     simp only [e1]
     simp [subH, Tx.look, q_n1, q7, q8, nB]
    | false =>
     simp only [f1, r0, r2, eI, b1, a2, hl2, Dat.row, Int.toNat_natCast, List.length_map, n0_q, q_n1, hFm, q7, q8, Nat.add_assoc, go_sem]
     repeat refine And.intro (by first | omega | exact ⟨by omega, by omega⟩ | exact okS (by kernel_rfl)) ?_
     refine CallVC.same (rLead16_ok d.sq (inn2.getD st.toNat 0) (by omega) (by omega) (by omega) (by omega)) ?_
     by_cases a3 : lead d.sq (inn2.getD st.toNat 0) 16 < 0
     ·have g3 : decide (0 ≤ lead d.sq (inn2.getD st.toNat 0) 16) = false := dF (by omega)
      have e1 := drop (by simp only [oldB, a1, a2, Bool.not_false, Bool.and_true, Bool.true_and]; exact dT a3)
      simp only [g3, Nat.add_assoc, go_sem]
      repeat refine And.intro (by first | omega | exact ⟨by omega, by omega⟩ | exact okS (by kernel_rfl)) ?_
      refine ⟨okDyn_num (fun x => if x = m then 1 else x.i % 10000 + 100) (by simp only [numF, List.map, q7, if_true, if_false, Nat.mul_add_mod, Nat.reduceMod, Nat.reduceAdd]; kernel_rfl), ?_⟩
      repeat refine And.intro (by first | omega | exact ⟨by omega, by omega⟩ | exact okS (by kernel_rfl)) ?_
      refine ⟨⟨i + 1, q⟩, ⟨by simp only []; omega, by simp only []; omega, by simp only []; omega⟩, by simp only []; omega, ?_⟩
      refine Sub.of (fun n hn => hF2 n (by have : n.l = L + 1 := hn; omega)) (by simp only [e1, go_sem, subT, and_self, Int.natCast_succ]) ?_ (by simp [subK, keys]) (by simp only []; omega)
      simp only [e1]
      simp [subH, Tx.look, q_0, q_32, q7, q8]
     ·have g3 : decide (0 ≤ lead d.sq (inn2.getD st.toNat 0) 16) = true := dT (by omega)
      obtain ⟨e1, e2⟩ := keep (by simp only [oldB, a1, a2, Bool.not_false, Bool.and_true, Bool.true_and]; exact dF a3)
      rw [a2] at e1
      simp only [g3, List.length_map, q_0, q_32, q_n1, q_n2, q_n5, q7, nS2, Nat.add_assoc, go_sem]
      repeat refine And.intro (by first | omega | exact ⟨by omega, by omega⟩ | exact okS (by kernel_rfl)) ?_
      refine ⟨okDyn_num (fun x => if x = m then 1 else x.i % 10000 + 100) (by simp only [numF, List.map, q7, if_true, if_false, Nat.mul_add_mod, Nat.reduceMod, Nat.reduceAdd]; kernel_rfl), ?_⟩
      repeat refine And.intro (by first | omega | exact ⟨by omega, by omega⟩ | exact okS (by kernel_rfl)) ?_
      refine ⟨⟨i + 1, 10000 * (i + 1) + 1056⟩, ⟨by simp only []; omega, by simp only []; omega, by simp only []; omega⟩, by simp only []; omega, ?_⟩
      refine Sub.of (fun n hn => hF2 n (by have : n.l = L + 1 := hn; omega)) (by simp only [e2, go_sem, subT, and_self, Int.natCast_succ]) ?_ (by simp [subK, keys]) (by simp only []; omega)
      simp only [e1]
      simp [subH, Tx.look, q_n1, q7, q8, nB]
  ·have f1 : decide ((i : Int) < (ps.length : Int)) = false := dF (by omega)
   have e : i = ps.length := by omega
   subst e
   obtain ⟨K, hK⟩ : ∃ K, K = kept (oldB inn2 st) ps ps.length := ⟨_, rfl⟩
   rw [← hK] at hkl ⊢
   simp only [f1, List.length_map, n0_q, n32_q, q7, Nat.add_assoc, go_sem]
   repeat refine And.intro (by first | omega | exact ⟨by omega, by omega⟩ | exact okS (by kernel_rfl)) ?_
   refine .now (PostN.mk (.inr rfl) ⟨[], True, .agg [.sl mo 0 ol, .sl m 0 inn.length, .sl ⟨L + 1, q⟩ 0 K.length, .int .i64 num, .int .i64 seen, .sl ma 0 al], .agg [.sl mo 0 ol, .sl m 0 inn.length, .fs 8 (K.map Dat.row), .int .i64 num, .int .i64 seen, .sl ma 0 al], rfl, List.nodup_nil, by simp only [resVal, resVals, resVal1, one, go_sem], trivial, ?_, ?_, ?_, ?_, ⟨by omega, ?_, trivial⟩⟩ ?_)
   ·simp [Wk, WkL, Tx.look, q7, q_0, q_32, List.take_of_length_le]
   ·simp [wkN, wkNL]
   ·simp [nmA, nmAL, Dn]; omega
   ·simp [Tx.rn, Tx.rnL, sg_out hml, sg_out hmo, sg_out hma]
   ·rw [kp_nil]
    exact .pure (by simp [Tx.look, q8])
   ·simp [UpdAll, keys]
def plOf (ps : List Dat) (t : Int) : List UInt8 := match getT ps t with | some d => d.pl | none => []
theorem compG_text (ps : List Dat) (f : Dat) : ∀ (k : Nat) (d : Dat) (tx : List UInt8) (ns : List Int) (r : List UInt8 × List Int), compG ps f k d tx ns = some r → getT ps d.tsn = some d → tx = (ns.map (plOf ps)).flatten → (∀ t ∈ ns, ∃ y, getT ps t = some y) →
  r.1 = (r.2.map (plOf ps)).flatten ∧ (∀ t ∈ r.2, ∃ y, getT ps t = some y) ∧ ∃ l, r.2 = ns ++ d.tsn :: l
 | 0, _, _, _, _, h, _, _, _ => by simp [compG] at h
 | k + 1, d, tx, ns, r, h, hd, ht, hn => by
  rw [compG] at h
  have hpl : plOf ps d.tsn = d.pl := by unfold plOf; rw [hd]
  have ht2 : tx ++ d.pl = ((ns ++ [d.tsn]).map (plOf ps)).flatten := by simp [ht, hpl]
  have hn2 : ∀ t ∈ ns ++ [d.tsn], ∃ y, getT ps t = some y := by
   intro t h'
   rcases List.mem_append.1 h' with h' | h'
   ·exact hn t h'
   ·simp at h'; subst h'; exact ⟨d, hd⟩
  split at h
  ·cases h
  ·split at h
   ·injection h with h; subst h
    exact ⟨ht2, hn2, [], by simp⟩
   ·split at h
    ·cases h
    ·rename_i d' hg
     have hd' : getT ps d'.tsn = some d' := by rw [(getT_mem hg).2]; exact hg
     obtain ⟨a, b, l, hl⟩ := compG_text ps f k d' _ _ r h hd' ht2 hn2
     exact ⟨a, b, d'.tsn :: l, by rw [hl]; simp⟩
theorem complete_text {ps : List Dat} {f : Dat} {m : Msg} {ns : List Int} (hnd : (ps.map Dat.tsn).Nodup) (hf : f ∈ ps) (h : complete ps f = some (m, ns)) :
  m.tx = (ns.map (plOf ps)).flatten ∧ (∀ t ∈ ns, ∃ y, getT ps t = some y) ∧ (∃ l, ns = f.tsn :: l) ∧ m = ⟨f.st, f.pr, f.lo, m.tx⟩ := by
 unfold complete at h
 split at h
 ·cases hc : compG ps f (ps.length + 1) f [] [] with
  | none => rw [hc] at h; cases h
  | some r =>
   rw [hc] at h
   simp only [Option.map_some, Option.some.injEq, Prod.mk.injEq] at h
   obtain ⟨a, b, l, hl⟩ := compG_text ps f _ f [] [] r hc (getT_self hnd hf) rfl (by simp)
   obtain ⟨h1, h2⟩ := h
   subst h1; subst h2
   exact ⟨a, b, ⟨l, by simpa using hl⟩, rfl⟩
 ·cases h
def txN (ps : List Dat) (ns : List Int) (j : Nat) : List UInt8 := ((ns.take j).map (plOf ps)).flatten
theorem txN_succ {ps : List Dat} {ns : List Int} {j : Nat} (h : j < ns.length) : txN ps ns (j + 1) = txN ps ns j ++ plOf ps ns[j] := by
 unfold txN
 rw [List.take_succ_eq_append_getElem h, List.map_append, List.flatten_append]
 simp only [List.map_cons, List.map_nil, List.flatten_cons, List.flatten_nil, List.append_nil]
theorem plOf_len {ps : List Dat} (h : ∀ d ∈ ps, d.ok = true) (t : Int) : (plOf ps t).length ≤ 1100 := by
 unfold plOf
 split
 ·rename_i d hd
  have := Dat.ok_bounds (h d (getT_mem hd).1)
  omega
 ·simp
theorem txN_len {ps : List Dat} (h : ∀ d ∈ ps, d.ok = true) (ns : List Int) : ∀ j, (txN ps ns j).length ≤ 1100 * j
 | 0 => by simp [txN]
 | j + 1 => by
  by_cases hj : j < ns.length
  ·rw [txN_succ hj, List.length_append]
   have := plOf_len h ns[j]
   have := txN_len h ns j
   omega
  ·have e : txN ps ns (j + 1) = txN ps ns j := by unfold txN; rw [List.take_of_length_le (by omega), List.take_of_length_le (by omega)]
   rw [e]
   have := txN_len h ns j
   omega
theorem txN_all (ps : List Dat) (ns : List Int) : txN ps ns ns.length = (ns.map (plOf ps)).flatten := by simp [txN]
theorem place_of {ps : List Dat} {t : Int} {y : Dat} (h : getT ps t = some y) : ∃ k, ∃ hk : k < ps.length, plI ps t = (k : Int) ∧ ps[k] = y ∧ plOf ps t = y.pl := by
 obtain ⟨k, hk, h1, h2⟩ := idxI_getT h
 exact ⟨k, hk, h1, h2, by unfold plOf; rw [h]⟩
theorem places_any {ps : List Dat} {ns : List Int} (hnd : (ps.map Dat.tsn).Nodup) (hns : ∀ t ∈ ns, ∃ y, getT ps t = some y) {j : Nat} (hj : j < ps.length) : ((ns.map (plI ps)).any fun y => y == (j : Int)) = ns.contains ps[j].tsn := by
 rw [Bool.eq_iff_iff, List.any_eq_true, List.contains_iff_mem]
 constructor
 ·rintro ⟨x, hx, he⟩
  obtain ⟨t, ht, rfl⟩ := List.mem_map.1 hx
  obtain ⟨y, hy⟩ := hns t ht
  obtain ⟨k, hk, h1, h2, _⟩ := place_of hy
  have : k = j := by have := beq_iff_eq.1 he; omega
  subst this
  rw [h2, (getT_mem hy).2]; exact ht
 ·intro h
  exact ⟨_, List.mem_map_of_mem h, by rw [plI_at hnd hj]; simp⟩
def duP (inn : List Int) (ps : List Dat) : List Int := (numsC (dueG inn ps)).map (plI ps)
structure DvX where
 k : Nat
 i : Nat
 q : Nat
 inn : List Int
 ps : List Dat
 out : List Msg
def dvI (ps : List Dat) (inn : List Int) (z : DvX) : Prop :=
 DelP z.inn z.ps ∧ z.inn.length = inn.length ∧ z.ps.length + z.k ≤ ps.length ∧ delG (ps.length - z.k) z.inn z.ps z.out = delG ps.length inn ps [] ∧ z.out.length = z.k ∧ 64 ≤ z.q ∧ z.q < 10000 * (z.i + 1)
structure DvY where
 j : Nat
 i : Nat
structure DvZ where
 j : Nat
 i : Nat
 q : Nat
theorem refDeliver_ok {F : SF} {L nx : Nat} (m mo ma : Nm) (ol al : Nat) (hm : m.l < L ∨ (m.l = L ∧ m.i < nx)) (hmo : mo.l ≤ L) (hma : ma.l ≤ L) (num seen : Int) (inn : List Int) (ps : List Dat) (hP : DelP inn ps)
  (hFm : F m = some (.rows 3 1 true true (inn.map eI))) :
  Con Tryz.prog 61 [.agg [.sl mo 0 ol, .sl m 0 inn.length, .fs 8 (ps.map Dat.row), .int .i64 num, .int .i64 seen, .sl ma 0 al]] F L nx nx (.tup [.agg [.sl mo 0 ol, .sl m 0 inn.length, .fs 8 ((delG ps.length inn ps []).2.1.map Dat.row), .int .i64 num, .int .i64 seen, .sl ma 0 al], .fs 4 ((delG ps.length inn ps []).2.2.map Msg.row)]) [(m, .rows 3 1 true true ((delG ps.length inn ps []).1.map eI))] [m] := by
 show Con Tryz.prog 61 _ F L nx (nx + 0) _ _ _
 refine Con.bodyN (cxOk (L + 1)) rfl rfl (fn := Tryz.f61) (c := Tryz.f61.body.getD .skip) (by kernel_rfl) (by rfl) (by kernel_rfl) rfl  (by simp; omega) ?_
 intro F3 hF1 hF2
 have hFm := (hF1 m (by simp)).trans hFm
 have hml : m.l ≤ L := by omega
 have q7 := nm_out' hml
 have q8 := nm_out hml
 simp only [Tryz.f61, cx, go_sem, meths]
 have hi16 := hP.i2
 refine CallVC.same (refDueN_ok m mo ma ol al (show m.l ≤ L + 1 by omega) (by omega) (by omega) inn num seen ps hP.len hP.ok hP.st hP.nodup (by omega) (by simp [hFm, q8])) ?_
 rw [show (numsC (dueG inn ps)).map (plI ps) = duP inn ps from rfl]
 simp only [go_sem]
 refine loopK.intro _ _ (I := fun z : DvX => ⟨[none, some (.ptr ⟨L + 1, 0⟩ 0 0), some (.ptr ⟨L + 1, 32⟩ 0 0), some (.nilS), some (.sl ⟨L + 1, z.q⟩ 0 z.out.length), some (.fs 1 ((duP z.inn z.ps).map eI)), none, none, none, none, none, none, none, none, none, none, none, none, none, none, none, none, none, none, none, none, none, none, none, none, none, none, none, none, none, none, none, none, none, none, none, none, none, none, none, none, none, none, none, none, none, none, none, none, none, none, none, none, none, none, none, none, none, none, none, none, none, none, none, none, none, none, none, none, none, none, none, none, none, none, none, none, none, none, none, none, none, none, none, none, none],
  [(⟨L + 1, 0⟩, .rows 41 6 true false [[.sl mo 0 ol, .sl m 0 z.inn.length, .fs 8 (z.ps.map Dat.row), .int .i64 num, .int .i64 seen, .sl ma 0 al]]), (⟨L + 1, 32⟩, .rows 41 6 true true [[.nilS, .nilS, .nilS, .int .i64 0, .int .i64 0, .nilS]]), (m, .rows 3 1 true true (z.inn.map eI)), (⟨L + 1, z.q⟩, .rows 23 4 true true (z.out.map Msg.row))], 10000 * (z.i + 1)⟩)
  (pre := dvI ps inn) (μ := fun z => z.ps.length) ⟨0, 0, 192, inn, ps, []⟩ ⟨hP, rfl, by simp, rfl, rfl, by simp, by simp⟩ ?_ ?_
 ·refine Sub.trans (Sub.nilName 4 23 (wd := 4) (by omega) rfl) ?_
  refine Sub.of (fun n hn => hF2 n (by have : n.l = L + 1 := hn; omega)) (by simp only [go_sem, subT, and_self]) ?_ (by simp [subK, keys, updH, setH, q7]) (by simp)
  simp [subH, Tx.look, updH, setH, hFm, q8]
 ·rintro ⟨k, i, q, inn1, ps1, out1⟩ ⟨h1, h2, h3, h4, h5, k1, k2⟩
  simp only at h1 h2 h3 h4 h5 k1 k2 ⊢
  have hp80 := h1.len
  have hi1 := h1.i2
  have hpl := hP.len
  have q_0 : (q = 0) = False := by apply eq_false; omega
  have n0_q : (0 = q) = False := by apply eq_false; omega
  have q_32 : (q = 32) = False := by apply eq_false; omega
  have n32_q : (32 = q) = False := by apply eq_false; omega
  have q_n1 : ∀ kk, (10000 * (i + 1) + kk = q) = False := fun kk => by apply eq_false; omega
  have q_n2 : ∀ kk, (q = 10000 * (i + 1) + kk) = False := fun kk => by apply eq_false; omega
  have q_n3 : (10000 * (i + 1) = q) = False := by apply eq_false; omega
  have q_n4 : (q = 10000 * (i + 1)) = False := by apply eq_false; omega
  have q_n5 : ∀ kk, ((⟨L + 1, q⟩ : Nm) == ⟨L + 1, 10000 * (i + 1) + kk⟩) = false := fun kk => by simp; omega
  cases hdu : dueG inn1 ps1 with
  | none =>
   have e0 : duP inn1 ps1 = [] := by unfold duP; rw [hdu]; rfl
   have f1 : decide ((0 : Int) < ((0 : Nat) : Int)) = false := rfl
   rw [delG_none (out := out1) hdu (ps.length - k)] at h4
   rw [← h4, e0]
   simp only [f1, h2, q7, Nat.add_assoc, n0_q, n32_q, go_sem]
   refine .now (PostN.mk (.inr rfl) ⟨[], True, .tup [.agg [.sl mo 0 ol, .sl m 0 inn.length, .fs 8 (ps1.map Dat.row), .int .i64 num, .int .i64 seen, .sl ma 0 al], .sl ⟨L + 1, q⟩ 0 out1.length], .tup [.agg [.sl mo 0 ol, .sl m 0 inn.length, .fs 8 (ps1.map Dat.row), .int .i64 num, .int .i64 seen, .sl ma 0 al], .fs 4 (out1.map Msg.row)], rfl, List.nodup_nil, by simp only [resVal, resVals, resVal1, one, go_sem], trivial, ?_, ?_, ?_, ?_, ⟨by omega, ?_, trivial⟩⟩ ?_)
   ·simp [Wk, WkL, Tx.look, q7, q_0, q_32, List.take_of_length_le]
   ·simp [wkN, wkNL]
   ·simp [nmA, nmAL, Dn]; omega
   ·simp [Tx.rn, Tx.rnL, sg_out hml, sg_out hmo, sg_out hma]
   ·rw [kp_nil]
    exact .pure (by simp [Tx.look, q8])
   ·simp [UpdAll, keys]
  | some r =>
   obtain ⟨m2, n2⟩ := r
   obtain ⟨d, hd, hc, hdq⟩ := due_spec hdu
   have hnl3 := complete_ne hc
   have hnl4 := complete_len hc
   obtain ⟨t1, t2, ⟨tl, t3⟩, t4⟩ := complete_text h1.nodup hd hc
   have hself := getT_self h1.nodup hd
   obtain ⟨kd, hkd, u1, u2, _⟩ := place_of hself
   obtain ⟨P, hPd⟩ : ∃ P, P = duP inn1 ps1 := ⟨_, rfl⟩
   have hPe : P = n2.map (plI ps1) := by rw [hPd]; unfold duP; rw [hdu]; rfl
   have hPl : P.length = n2.length := by rw [hPe]; simp
   rw [← hPd]
   have f1 : decide ((0 : Int) < (P.length : Int)) = true := dT (by omega)
   have rP : (P.map eI).getD 0 [] = [.int .i64 (kd : Int)] := by rw [hPe, t3]; simp [eI, u1]
   have rD : (ps1.map Dat.row).getD kd [] = d.row := by rw [rowD hkd, u2]
   have hst := h1.st d hd
   have hok := Dat.ok_bounds (h1.ok d hd)
   have hwl : (withoutG ps1 fun d => n2.contains d.tsn).length < ps1.length := without_len hd (by simpa using (complete_spec hc).2.2.2)
   obtain ⟨k', hk'⟩ : ∃ k', ps.length - k = k' + 1 := ⟨ps.length - k - 1, by omega⟩
   rw [hk', delG, hdu] at h4
   simp only at h4
   obtain ⟨ps2, hps2⟩ : ∃ ps2, ps2 = withoutG ps1 fun d => n2.contains d.tsn := ⟨_, rfl⟩
   have hP2 : DelP inn1 ps2 := by rw [hps2]; exact h1.without _
   rw [← hps2] at hwl h4
   simp only [f1, rP, rD, Dat.row, Int.toNat_natCast, q7, nS2, Nat.add_assoc, n0_q, q_n1, List.length_map, Nat.add_zero, go_sem]
   repeat refine And.intro (by first | omega | exact ⟨by omega, by omega⟩ | exact okS (by kernel_rfl)) ?_
   refine ⟨okDyn_num (fun x => if x = m then 1 else x.i % 10000 + 100) (by simp only [numF, List.map, q7, if_false, Nat.mul_add_mod, Nat.reduceMod, Nat.reduceAdd]; kernel_rfl), ?_⟩
   obtain ⟨i0, hi0⟩ : ∃ x, x = i := ⟨_, rfl⟩
   obtain ⟨a, ha⟩ : ∃ a, a = 10000 * (i + 1) + 608 := ⟨_, rfl⟩
   have hqa : q < a := by omega
   have ha2 : a < 10000 * (i0 + 2) := by omega
   have k2' : q < 10000 * (i0 + 1) := by omega
   simp only [← ha]
   refine loopK.intro _ _ (I := fun z : DvY => ⟨[none, some (.ptr ⟨L + 1, 0⟩ 0 0), some (.ptr ⟨L + 1, 32⟩ 0 0), some (.nilS), some (.sl ⟨L + 1, q⟩ 0 out1.length), some (.fs 1 (P.map eI)), none, some (.ptr ⟨L + 1, a⟩ 0 0), some (.int .i64 z.j), none, none, none, none, none, none, none, none, none, none, none, none, none, none, none, none, none, none, none, none, none, none, none, none, none, none, none, none, none, none, none, none, none, none, none, none, none, none, none, none, none, none, none, none, none, none, none, none, none, none, none, none, none, none, none, none, none, none, none, none, none, none, none, none, none, none, none, none, none, none, none, none, none, none, none, none, none, none, none, none, none, none],
    [(⟨L + 1, 0⟩, .rows 41 6 true false [[.sl mo 0 ol, .sl m 0 inn1.length, .fs 8 (ps1.map Dat.row), .int .i64 num, .int .i64 seen, .sl ma 0 al]]), (⟨L + 1, 32⟩, .rows 41 6 true true [[.nilS, .nilS, .nilS, .int .i64 0, .int .i64 0, .nilS]]), (m, .rows 3 1 true true (inn1.map eI)), (⟨L + 1, q⟩, .rows 23 4 true true (out1.map Msg.row)), (⟨L + 1, a⟩, .rows 23 4 true true [[.int .i64 d.st, .int .i64 d.pr, .bool d.lo, .str (txN ps1 n2 z.j)]])], 10000 * (z.i + 1)⟩)
    (pre := fun z => z.j ≤ n2.length ∧ i0 < z.i) (μ := fun z => n2.length - z.j) ⟨0, i + 1⟩ ⟨by simp, by simp only []; omega⟩ ?_ ?_
   ·have e0 : txN ps1 n2 0 = [] := by simp [txN]
    have a0 : (a = 0) = False := by apply eq_false; omega
    have a1 : (0 = a) = False := by apply eq_false; omega
    have a2 : (a = 32) = False := by apply eq_false; omega
    have a3 : (32 = a) = False := by apply eq_false; omega
    have a4 : (a = q) = False := by apply eq_false; omega
    have a5 : (q = a) = False := by apply eq_false; omega
    have a6 : (a = 10000 * (i + 1) + 320) = False := by apply eq_false; omega
    refine Sub.of (fun n hn => hF2 n (by have : n.l = L + 1 := hn; omega)) (by simp only [go_sem, subT, and_self, Int.natCast_zero]) ?_ (by simp [subK, keys, q7, q8]) (by simp only []; omega)
    simp [subH, Tx.look, e0, h2, a0, a2, a4, a6, q7, q8, q_0, q_32]
   ·clear q_0 n0_q q_32 n32_q q_n1 q_n2 q_n3 q_n4 q_n5 k2 ha hi0 i
    rintro ⟨j, i⟩ ⟨g1, g2⟩
    simp only at g1 g2 ⊢
    have q_0 : (q = 0) = False := by apply eq_false; omega
    have n0_q : (0 = q) = False := by apply eq_false; omega
    have q_32 : (q = 32) = False := by apply eq_false; omega
    have n32_q : (32 = q) = False := by apply eq_false; omega
    have q_a : (q = a) = False := by apply eq_false; omega
    have na_q : (a = q) = False := by apply eq_false; omega
    have q_n1 : ∀ kk, (10000 * (i + 1) + kk = q) = False := fun kk => by apply eq_false; omega
    have q_n2 : ∀ kk, (q = 10000 * (i + 1) + kk) = False := fun kk => by apply eq_false; omega
    have q_n3 : (10000 * (i + 1) = q) = False := by apply eq_false; omega
    have q_n4 : (q = 10000 * (i + 1)) = False := by apply eq_false; omega
    have q_n5 : ∀ kk, ((⟨L + 1, q⟩ : Nm) == ⟨L + 1, 10000 * (i + 1) + kk⟩) = false := fun kk => by simp; omega
    have a_0 : (a = 0) = False := by apply eq_false; omega
    have n0_a : (0 = a) = False := by apply eq_false; omega
    have a_32 : (a = 32) = False := by apply eq_false; omega
    have n32_a : (32 = a) = False := by apply eq_false; omega
    have a_n1 : ∀ kk, (10000 * (i + 1) + kk = a) = False := fun kk => by apply eq_false; omega
    have a_n2 : ∀ kk, (a = 10000 * (i + 1) + kk) = False := fun kk => by apply eq_false; omega
    have a_n3 : (10000 * (i + 1) = a) = False := by apply eq_false; omega
    have a_n4 : (a = 10000 * (i + 1)) = False := by apply eq_false; omega
    have a_n5 : ∀ kk, ((⟨L + 1, a⟩ : Nm) == ⟨L + 1, 10000 * (i + 1) + kk⟩) = false := fun kk => by simp; omega
    by_cases hlt : j < n2.length
    ·have f2 : decide ((j : Int) < (P.length : Int)) = true := dT (by omega)
     obtain ⟨y, hy⟩ := t2 n2[j] (List.getElem_mem hlt)
     obtain ⟨kj, hkj, v1, v2, v3⟩ := place_of hy
     have rJ : (P.map eI).getD j [] = [.int .i64 (kj : Int)] := by rw [hPe]; simp [eI, hlt, v1, List.getD_eq_getElem?_getD]
     have rK : (ps1.map Dat.row).getD kj [] = y.row := by rw [rowD hkj, v2]
     have hty := txN_succ (ps := ps1) hlt
     rw [v3] at hty
     have htl := txN_len h1.ok n2 j
     have hyo := Dat.ok_bounds (h1.ok y (by rw [← v2]; exact List.getElem_mem hkj))
     simp only [f2, rJ, rK, Dat.row, Int.toNat_natCast, q7, Nat.add_assoc, n0_q, na_q, a_0, n0_a, a_32, List.length_map, go_sem]
     repeat refine And.intro (by first | omega | exact ⟨by omega, by omega⟩ | exact okS (by kernel_rfl)) ?_
     refine ⟨okDyn_num (fun x => if x.i = a then 1 else x.i % 10000 + 100) (by simp only [numF, List.map, n0_a, eq_self, if_true, if_false, Nat.reduceMod, Nat.reduceAdd]; kernel_rfl), ?_⟩
     repeat refine And.intro (by first | omega | exact ⟨by omega, by omega⟩ | exact okS (by kernel_rfl)) ?_
     refine ⟨⟨j + 1, i + 1⟩, ⟨by simp only []; omega, by simp only []; omega⟩, by simp only []; omega, ?_⟩
     refine Sub.of (fun n hn => hF2 n (by have : n.l = L + 1 := hn; omega)) (by simp only [go_sem, subT, and_self, Int.natCast_succ]) ?_ (by simp [subK, keys, q7, q8]) (by simp only []; omega)
     simp [subH, Tx.look, hty, q7, q8, q_0, q_32, na_q, a_0, a_32]
    ·have f2 : decide ((j : Int) < (P.length : Int)) = false := dF (by omega)
     have e : j = n2.length := by omega
     subst e
     rw [txN_all, ← t1]
     simp only [f2, q7, Nat.add_assoc, n0_q, n32_q, n0_a, n32_a, List.length_map, go_sem]
     repeat refine And.intro (by first | omega | exact ⟨by omega, by omega⟩ | exact okS (by kernel_rfl)) ?_
     obtain ⟨i1, hi1⟩ : ∃ x, x = i := ⟨_, rfl⟩
     obtain ⟨h0, hh0⟩ : ∃ h : Dat → Bool, h = fun d => n2.contains d.tsn := ⟨_, rfl⟩
     rw [← hh0] at hps2
     refine loopK.intro _ _ (I := fun z : DvZ => ⟨[none, some (.ptr ⟨L + 1, 0⟩ 0 0), some (.ptr ⟨L + 1, 32⟩ 0 0), some (.nilS), some (.sl ⟨L + 1, q⟩ 0 out1.length), some (.fs 1 (P.map eI)), none, some (.ptr ⟨L + 1, a⟩ 0 0), none, some (.sl ⟨L + 1, z.q⟩ 0 (kept h0 ps1 z.j).length), some (.int .i64 z.j), none, none, none, none, none, none, none, none, none, none, none, none, none, none, none, none, none, none, none, none, none, none, none, none, none, none, none, none, none, none, none, none, none, none, none, none, none, none, none, none, none, none, none, none, none, none, none, none, none, none, none, none, none, none, none, none, none, none, none, none, none, none, none, none, none, none, none, none, none, none, none, none, none, none, none, none, none, none, none, none],
      [(⟨L + 1, 0⟩, .rows 41 6 true false [[.sl mo 0 ol, .sl m 0 inn1.length, .fs 8 (ps1.map Dat.row), .int .i64 num, .int .i64 seen, .sl ma 0 al]]), (⟨L + 1, 32⟩, .rows 41 6 true true [[.nilS, .nilS, .nilS, .int .i64 0, .int .i64 0, .nilS]]), (m, .rows 3 1 true true (inn1.map eI)), (⟨L + 1, q⟩, .rows 23 4 true true (out1.map Msg.row)), (⟨L + 1, a⟩, .rows 23 4 true true [[.int .i64 d.st, .int .i64 d.pr, .bool d.lo, .str m2.tx]]), (⟨L + 1, z.q⟩, .rows 32 8 true true ((kept h0 ps1 z.j).map Dat.row))], 10000 * (z.i + 1)⟩)
      (pre := fun z => z.j ≤ ps1.length ∧ i1 < z.i ∧ z.q < 10000 * (z.i + 1) ∧ q < z.q ∧ a < z.q) (μ := fun z => ps1.length - z.j) ⟨0, i + 1, 10000 * (i + 1) + 192⟩ ⟨by simp, by simp only []; omega, by simp only []; omega, by simp only []; omega, by simp only []; omega⟩ ?_ ?_
     ·have e0 : kept h0 ps1 0 = [] := rfl
      refine Sub.trans (Sub.nilName 9 32 (wd := 8) (by omega) rfl) ?_
      refine Sub.of (fun n hn => hF2 n (by have : n.l = L + 1 := hn; omega)) (by simp only [e0, List.length_nil, go_sem, subT, and_self, Int.natCast_zero]) ?_ (by simp [subK, keys, updH, setH, q7, q8, nB, q_0, n0_q, q_32, n32_q, q_a, na_q, q_n1, q_n2, a_0, n0_a, a_32, n32_a, a_n1, a_n2]) (by simp only []; omega)
      simp [subH, Tx.look, updH, setH, e0, q7, q8, nB, q_0, q_32, na_q, q_n1, a_0, a_32, a_n1]
     ·have g2' : i0 < i1 := by omega
      clear q_0 n0_q q_32 n32_q q_a na_q q_n1 q_n2 q_n3 q_n4 q_n5 a_0 n0_a a_32 n32_a a_n1 a_n2 a_n3 a_n4 a_n5 g2 hi1 i
      rintro ⟨j, i, q2⟩ ⟨g1, g2, g3, g4, g5⟩
      simp only at g1 g2 g3 g4 g5 ⊢
      have q2_0 : (q2 = 0) = False := by apply eq_false; omega
      have n0_q2 : (0 = q2) = False := by apply eq_false; omega
      have q2_32 : (q2 = 32) = False := by apply eq_false; omega
      have n32_q2 : (32 = q2) = False := by apply eq_false; omega
      have q2_a : (q2 = a) = False := by apply eq_false; omega
      have na_q2 : (a = q2) = False := by apply eq_false; omega
      have q2_q : (q2 = q) = False := by apply eq_false; omega
      have nq_q2 : (q = q2) = False := by apply eq_false; omega
      have q2_n1 : ∀ kk, (10000 * (i + 1) + kk = q2) = False := fun kk => by apply eq_false; omega
      have q2_n2 : ∀ kk, (q2 = 10000 * (i + 1) + kk) = False := fun kk => by apply eq_false; omega
      have q2_n3 : (10000 * (i + 1) = q2) = False := by apply eq_false; omega
      have q2_n4 : (q2 = 10000 * (i + 1)) = False := by apply eq_false; omega
      have q2_n5 : ∀ kk, ((⟨L + 1, q2⟩ : Nm) == ⟨L + 1, 10000 * (i + 1) + kk⟩) = false := fun kk => by simp; omega
      have q_0 : (q = 0) = False := by apply eq_false; omega
      have n0_q : (0 = q) = False := by apply eq_false; omega
      have q_32 : (q = 32) = False := by apply eq_false; omega
      have n32_q : (32 = q) = False := by apply eq_false; omega
      have q_a : (q = a) = False := by apply eq_false; omega
      have na_q : (a = q) = False := by apply eq_false; omega
      have q_n1 : ∀ kk, (10000 * (i + 1) + kk = q) = False := fun kk => by apply eq_false; omega
      have q_n2 : ∀ kk, (q = 10000 * (i + 1) + kk) = False := fun kk => by apply eq_false; omega
      have q_n3 : (10000 * (i + 1) = q) = False := by apply eq_false; omega
      have q_n4 : (q = 10000 * (i + 1)) = False := by apply eq_false; omega
      have q_n5 : ∀ kk, ((⟨L + 1, q⟩ : Nm) == ⟨L + 1, 10000 * (i + 1) + kk⟩) = false := fun kk => by simp; omega
      have a_0 : (a = 0) = False := by apply eq_false; omega
      have n0_a : (0 = a) = False := by apply eq_false; omega
      have a_32 : (a = 32) = False := by apply eq_false; omega
      have n32_a : (32 = a) = False := by apply eq_false; omega
      have a_n1 : ∀ kk, (10000 * (i + 1) + kk = a) = False := fun kk => by apply eq_false; omega
      have a_n2 : ∀ kk, (a = 10000 * (i + 1) + kk) = False := fun kk => by apply eq_false; omega
      have a_n3 : (10000 * (i + 1) = a) = False := by apply eq_false; omega
      have a_n4 : (a = 10000 * (i + 1)) = False := by apply eq_false; omega
      have a_n5 : ∀ kk, ((⟨L + 1, a⟩ : Nm) == ⟨L + 1, 10000 * (i + 1) + kk⟩) = false := fun kk => by simp; omega
      have hkl := kept_len h0 ps1 j
      by_cases hlt : j < ps1.length
      ·have f3 : decide ((j : Int) < (ps1.length : Int)) = true := dT (by omega)
       have r0 := rowD hlt
       have hks := kept_succ (h := h0) hlt
       have hpa := places_any h1.nodup t2 hlt
       rw [← hPe] at hpa
       have hh : h0 ps1[j] = n2.contains ps1[j].tsn := by rw [hh0]
       obtain ⟨y, hy⟩ : ∃ y, y = ps1[j] := ⟨_, rfl⟩
       rw [← hy] at r0 hks hpa hh
       rw [← hh] at hpa
       have hhas := fun F L nx => has_ok (F := F) (L := L) (nx := nx) P (j : Int) (by omega)
       rw [show (P.any (hasP (j : Int))) = P.any (fun y => y == (j : Int)) from rfl, hpa] at hhas
       obtain ⟨K, hK⟩ : ∃ K, K = kept h0 ps1 j := ⟨_, rfl⟩
       rw [← hK] at hks hkl ⊢
       simp only [f3, q7, Nat.add_assoc, n0_q2, n0_q, n0_a, List.length_map, go_sem]
       repeat refine And.intro (by first | omega | exact ⟨by omega, by omega⟩ | exact okS (by kernel_rfl)) ?_
       refine CallVC.same (hhas _ _ _) ?_
       cases hb : h0 y with
       | true =>
        rw [hb] at hks
        have e1 : kept h0 ps1 (j + 1) = K := by rw [hks]; simp
        simp only [Nat.add_assoc, go_sem]
        repeat refine And.intro (by first | omega | exact ⟨by omega, by omega⟩ | exact okS (by kernel_rfl)) ?_
        refine ⟨⟨j + 1, i + 1, q2⟩, ⟨by simp only []; omega, by simp only []; omega, by simp only []; omega, by simp only []; omega, by simp only []; omega⟩, by simp only []; omega, ?_⟩
        refine Sub.of (fun n hn => hF2 n (by have : n.l = L + 1 := hn; omega)) (by simp only [e1, go_sem, subT, and_self, Int.natCast_succ]) ?_ (by simp [subK, keys, q7, q8]) (by simp only []; omega)
        simp only [e1]
        simp [subH, Tx.look, q7, q8, q2_0, q2_32, q2_a, q2_q, q_0, q_32, na_q, a_0, a_32]
       | false =>
        rw [hb] at hks
        have e1 : (kept h0 ps1 (j + 1)).map Dat.row = K.map Dat.row ++ [[.int .i64 y.tsn, .int .i64 y.st, .int .i64 y.sq, .int .i64 y.pr, .bool y.fi, .bool y.la, .bool y.lo, .str y.pl]] := by rw [hks]; simp [Dat.row]
        have e2 : (kept h0 ps1 (j + 1)).length = K.length + 1 := by rw [hks]; simp
        simp only [r0, Dat.row, Int.toNat_natCast, q7, nS2, Nat.add_assoc, q2_0, n0_q2, q2_32, q2_a, q2_q, q2_n1, q2_n2, q2_n5, n0_q, q_n1, n0_a, a_n1, List.length_map, go_sem]
        repeat refine And.intro (by first | omega | exact ⟨by omega, by omega⟩ | exact okS (by kernel_rfl)) ?_
        refine ⟨⟨j + 1, i + 1, 10000 * (i + 1) + 480⟩, ⟨by simp only []; omega, by simp only []; omega, by simp only []; omega, by simp only []; omega, by simp only []; omega⟩, by simp only []; omega, ?_⟩
        refine Sub.of (fun n hn => hF2 n (by have : n.l = L + 1 := hn; omega)) (by simp only [e2, go_sem, subT, and_self, Int.natCast_succ]) ?_ (by simp [subK, keys, q7, q8]) (by simp only []; omega)
        simp only [e1]
        simp [subH, Tx.look, q7, q8, nB, q2_n1, q_0, q_32, na_q, q_n1, a_0, a_32, a_n1]
      ·have f3 : decide ((j : Int) < (ps1.length : Int)) = false := dF (by omega)
       have e : j = ps1.length := by omega
       subst e
       have eK : kept h0 ps1 ps1.length = ps2 := by rw [kept_all, hps2]
       rw [eK]
       obtain ⟨c1, c2, c3, c4⟩ := complete_spec hc
       have hmr : m2.row = [.int .i64 d.st, .int .i64 d.pr, .bool d.lo, .str m2.tx] := by rw [Msg.row, c1, c2, c3]
       have hml1 : m2.lo = d.lo := c3
       cases hlo : d.lo with
       | true =>
        rw [hml1, hlo] at h4
        simp only [if_true] at h4
        rw [hlo] at hmr
        simp only [f3, q7, nS2, Nat.add_assoc, n0_q2, n32_q2, na_q2, nq_q2, q2_n1, q_0, n0_q, q_32, n32_q, q_a, na_q, q_n1, q_n2, q_n5, a_0, n0_a, a_32, n32_a, a_n1, List.length_map, go_sem]
        repeat refine And.intro (by first | omega | exact ⟨by omega, by omega⟩ | exact okS (by kernel_rfl)) ?_
        refine CallVC.gen (args2 := [.agg [.sl mo 0 ol, .sl m 0 inn1.length, .fs 8 (ps2.map Dat.row), .int .i64 num, .int .i64 seen, .sl ma 0 al]]) (by simp [WkL, Wk, List.take_of_length_le, q7, q2_0, q2_32, q2_a, q2_q]) (refDueN_ok m mo ma ol al (show m.l ≤ L + 1 by omega) (by omega) (by omega) inn1 num seen ps2 hP2.len hP2.ok hP2.st hP2.nodup (by omega) (by simp [wkNL, wkN, unown, SF.upd, SF.set, q7, q8, q2_0, q2_32, q2_a, q2_q])) ?_
        rw [show (numsC (dueG inn1 ps2)).map (plI ps2) = duP inn1 ps2 from rfl]
        simp only [wkNL, wkN, unown, q7, Nat.add_assoc, q2_0, q2_32, q2_a, q2_q, q2_n2, go_sem]
        repeat refine And.intro (by first | omega | exact ⟨by omega, by omega⟩ | exact okS (by kernel_rfl)) ?_
        refine ⟨⟨k + 1, i + 1, 10000 * (i + 1) + 448, inn1, ps2, out1 ++ [m2]⟩, ⟨hP2, h2, by simp only []; omega, by rw [← h4]; show delG (ps.length - (k + 1)) _ _ _ = _; rw [show ps.length - (k + 1) = k' by omega], by simp; omega, by simp only []; omega, by simp only []; omega⟩, hwl, ?_⟩
        refine Sub.trans (Sub.freeze (n := ⟨L + 1, 0⟩) (e := 41) (wd := 6) (o := true) (rs := [[.sl mo 0 ol, .sl m 0 inn1.length, .sl ⟨L + 1, q2⟩ 0 ps2.length, .int .i64 num, .int .i64 seen, .sl ma 0 al]]) [[.sl mo 0 ol, .sl m 0 inn1.length, .fs 8 (ps2.map Dat.row), .int .i64 num, .int .i64 seen, .sl ma 0 al]] (by simp [Tx.look]) (by simp [WkLL, WkL, Wk, Tx.look, List.take_of_length_le, q7, q2_0, q2_32, q2_a, q2_q]) (by simp [wkNLL, wkNL, wkN, n0_q2])) ?_
        refine Sub.of (fun n hn => hF2 n (by have : n.l = L + 1 := hn; omega)) (by simp only [List.length_append, go_sem, subT, and_self]) ?_ (by simp [subK, keys, updH, setH, unown, wkNLL, wkNL, wkN, Tx.look, q7, q8, nB, q2_0, q2_32, q2_a, q2_q, q2_n2, q_0, q_32, q_n2, a_0, a_32, a_n2]) (by simp only []; omega)
        simp [subH, Tx.look, updH, setH, unown, wkNLL, wkNL, wkN, hmr, q7, q8, nB, q2_0, q2_32, q2_a, q2_q, q2_n1, q_n1, a_n1]
       | false =>
        rw [hml1, hlo] at h4
        simp only [if_false, Bool.false_eq_true] at h4
        rw [hlo] at hmr
        have hsq := serB16_at h1.i3 (k := d.st.toNat) (by omega)
        have r1 := getD_eI inn1 (i := d.st.toNat) (by omega)
        simp only [f3, r1, eI, hFm, q7, q8, Nat.add_assoc, n0_q2, n32_q2, na_q2, n0_q, n32_q, na_q, a_0, n0_a, a_32, n32_a, List.length_map, Nat.add_zero, go_sem]
        repeat refine And.intro (by first | omega | exact ⟨by omega, by omega⟩ | exact okS (by kernel_rfl)) ?_
        refine CallVC.gen (args2 := [.agg [.sl mo 0 ol, .sl m 0 inn1.length, .fs 8 (ps2.map Dat.row), .int .i64 num, .int .i64 seen, .sl ma 0 al], .int .i64 d.st, .int .i64 (inn1.getD d.st.toNat 0)]) (by simp [WkL, Wk, List.take_of_length_le, q7, q2_0, q2_32, q2_a, q2_q]) (refNext_ok m mo ma ol al (.inl (show m.l < L + 1 by omega)) (by omega) (by omega) num seen d.st (inn1.getD d.st.toNat 0) inn1 h1.i3 hok.2.2.1 hst hsq.1 hsq.2 (by omega) ps2 (by have := hP2.len; omega) hP2.ok (by simp [wkNL, wkN, unown, SF.upd, SF.set, q7, q8, q2_0, q2_32, q2_a, q2_q])) ?_
        rw [c1] at h4
        have hP3 := hP2.next d.st (inn1.getD d.st.toNat 0)
        have hwl3 : (nextP inn1 ps2 d.st (inn1.getD d.st.toNat 0)).length ≤ ps2.length := List.length_filter_le _ _
        obtain ⟨inn3, hin3⟩ : ∃ x, x = nextI inn1 d.st (inn1.getD d.st.toNat 0) := ⟨_, rfl⟩
        obtain ⟨ps3, hps3⟩ : ∃ x, x = nextP inn1 ps2 d.st (inn1.getD d.st.toNat 0) := ⟨_, rfl⟩
        have hl3 : inn3.length = inn1.length := by rw [hin3]; exact nextI_len _ _ _
        rw [← hin3, ← hps3] at hP3 h4
        rw [← hps3] at hwl3
        rw [← hin3, ← hps3]
        simp only [wkNL, wkN, unown, q7, q8, nS2, Nat.add_assoc, q2_0, n0_q2, q2_32, q2_a, na_q2, q2_q, nq_q2, q2_n1, q_0, n0_q, q_32, q_a, na_q, q_n1, q_n2, q_n5, a_0, n0_a, a_32, a_n1, List.length_map, go_sem]
        refine ⟨okDyn_num (fun x => if x = m then 1 else if x.i = a then 2 else if x.i = q2 then 3 else x.i % 10000 + 100) (by simp only [numF, List.map, q7, Nat.reduceAdd, n0_q2, q2_a, na_q2, n0_a, eq_self, if_true, if_false, Nat.reduceMod, Nat.reduceAdd]; kernel_rfl), ?_⟩
        repeat refine And.intro (by first | omega | exact ⟨by omega, by omega⟩ | exact okS (by kernel_rfl)) ?_
        have hdn := fun F L nx h1 h2 h3 h4 => refDueN_ok (F := F) (L := L) (nx := nx) m mo ma ol al h1 h2 h3 inn3 num seen ps3 hP3.len hP3.ok hP3.st hP3.nodup (by omega) h4
        rw [hl3] at hdn
        refine CallVC.same (hdn _ _ _ (show m.l ≤ L + 1 by omega) (by omega) (by omega) (by simp [q8])) ?_
        rw [show (numsC (dueG inn3 ps3)).map (plI ps3) = duP inn3 ps3 from rfl]
        simp only [Nat.add_assoc, go_sem]
        repeat refine And.intro (by first | omega | exact ⟨by omega, by omega⟩ | exact okS (by kernel_rfl)) ?_
        refine ⟨⟨k + 1, i + 1, 10000 * (i + 1) + 768, inn3, ps3, out1 ++ [m2]⟩, ⟨hP3, hl3.trans h2, by simp only []; omega, by rw [← h4]; show delG (ps.length - (k + 1)) _ _ _ = _; rw [show ps.length - (k + 1) = k' by omega], by simp; omega, by simp only []; omega, by simp only []; omega⟩, by simp only []; omega, ?_⟩
        refine Sub.of (fun n hn => hF2 n (by have : n.l = L + 1 := hn; omega)) (by simp only [List.length_append, go_sem, subT, and_self]) ?_ (by simp [subK, keys, q7, q8, nB, q2_0, q2_32, q2_n2, q_0, q_32, q_n2, a_0, a_32, a_n2]) (by simp only []; omega)
        simp [subH, Tx.look, hl3, hmr, q7, q8, nB, q2_n1, q_n1, a_n1]
theorem tsn_any {ps : List Dat} {t : Int} : ps.any (tsnB t) = ps.any (fun y => y.tsn == t) := rfl
theorem refTakeG_ok {F : SF} {L nx : Nat} (out inn asked : List Int) (num seen : Int) (hS : Str0 out inn num seen asked) (ps : List Dat) (hP : PsOk inn ps) (hD : dueG inn ps = none) (d : Dat) (hd : d.ok = true) (hst : d.st < inn.length) (hl : ps.length < 80) :
  Con Tryz.prog 23 [strV out inn num seen asked ps, .agg d.row] F L nx nx (.tup [strV out (takeG inn ps d).1 num seen asked (takeG inn ps d).2.1, .fs 4 ((takeG inn ps d).2.2.map Msg.row), .int .i64 0]) [] [] := by
 have ho2 := hS.o2
 have hi2 := hS.i2
 have ha2 := hS.a2
 have hok := Dat.ok_bounds hd
 have hri := fun F L nx => right_ok (F := F) (L := L) (nx := nx) out inn asked num seen ps (by omega) (by omega) (by omega) (by omega)
 rw [chkB_of hS hP hD] at hri
 have hrd := fun F L nx => rightData_ok (F := F) (L := L) (nx := nx) d
 rw [hd] at hrd
 have hat := fun F L nx => rAt_ok (F := F) (L := L) (nx := nx) ps d.tsn (by omega)
 have hco := fun F L nx => copied_ok (F := F) (L := L) (nx := nx) out inn asked num seen ps (by omega) (by omega) (by omega) (by omega)
 have hany := idxI_any (tsnB d.tsn) ps
 have r1 := getD_eI inn (i := d.st.toNat) (by omega)
 have hin := serB16_at hS.i3 (k := d.st.toNat) (by omega)
 have hle := fun F L nx => rLead16_ok (F := F) (L := L) (nx := nx) d.sq (inn.getD d.st.toNat 0) (by omega) (by omega) (by omega) (by omega)
 have f1 : decide ((inn.length : Int) ≤ d.st) = false := dF (by omega)
 have f2 : decide ((80 : Int) ≤ (ps.length : Int)) = false := dF (by omega)
 simp only [strV, Dat.row] at hri hrd hat hco hle
 refine Con.body (cxOk (L + 1)) rfl rfl (fn := Tryz.f23) (c := Tryz.f23.body.getD .skip) (by kernel_rfl) (by rfl) (by kernel_rfl) rfl (by simp) ?_
 intro F3 hF1 hF2
 simp only [Tryz.f23, cx, strV, Dat.row, go_sem, meths]
 refine CallVC.same (hri _ _ _) ?_
 simp only [go_sem]
 repeat refine And.intro (by first | omega | exact ⟨by omega, by omega⟩ | exact okS (by kernel_rfl)) ?_
 refine CallVC.same (hrd _ _ _) ?_
 simp only [f1, List.length_map, Nat.add_zero, go_sem]
 repeat refine And.intro (by first | omega | exact ⟨by omega, by omega⟩ | exact okS (by kernel_rfl)) ?_
 refine CallVC.same (hat _ _ _) ?_
 cases hda : ps.any (tsnB d.tsn) with
 | true =>
  rw [hda] at hany
  have e : takeG inn ps d = (inn, ps, []) := by unfold takeG; rw [← tsn_any, hda]; rfl
  rw [e]
  simp only [hany, go_sem]
  repeat refine And.intro (by first | omega | exact ⟨by omega, by omega⟩ | exact okS (by kernel_rfl)) ?_
  refine ⟨okDyn_num (fun x => x.i) (by kernel_rfl), ?_⟩
  repeat refine And.intro (by first | omega | exact ⟨by omega, by omega⟩ | exact okS (by kernel_rfl)) ?_
  exact PostF.of (p := True) (v0 := .tup [.agg [.fs 1 (out.map eI), .fs 1 (inn.map eI), .fs 8 (ps.map Dat.row), .int .i64 num, .int .i64 seen, .fs 1 (asked.map eI)], .nilS, .int .i64 0]) (.inr rfl) (by simp only [resVal, resVals, resVal1, one, go_sem]) trivial (by simp [Wk, WkL]) (by simp [wkN, wkNL]) (by simp [Tx.nf, nfl]) trivial (by simp [UpdAll, keys])
 | false =>
 rw [hda] at hany
 cases hlo : d.lo with
 | true =>
  have hpn : PsOk inn (ps ++ [d]) := psOk_add hP hl (by unfold partOk; rw [hd]; simp only [Bool.true_and, Bool.and_eq_true, decide_eq_true_eq, Bool.or_eq_true]; exact ⟨hst, .inl hlo⟩) hda
  have e : takeG inn ps d = delG (ps ++ [d]).length inn (ps ++ [d]) [] := by
   unfold takeG
   rw [← tsn_any, hda, hlo]; simp
  obtain ⟨ps3, hps3⟩ : ∃ x, x = ps ++ [d] := ⟨_, rfl⟩
  have hdl := fun F L nx m mo ma ol al hm hmo hma hFm => refDeliver_ok (F := F) (L := L) (nx := nx) m mo ma ol al hm hmo hma num seen inn ps3 (by rw [hps3]; exact hpn.delP hS.i3 hS.i2) hFm
  have hme : ps.map Dat.row ++ [[.int .i64 d.tsn, .int .i64 d.st, .int .i64 d.sq, .int .i64 d.pr, .bool d.fi, .bool d.la, .bool d.lo, .str d.pl]] = ps3.map Dat.row := by rw [hps3]; simp [Dat.row]
  have hpl : ps.length + 1 = ps3.length := by rw [hps3]; simp
  rw [← hps3] at e
  rw [e]
  obtain ⟨z, hz⟩ : ∃ z, z = delG ps3.length inn ps3 [] := ⟨_, rfl⟩
  have hzl : z.1.length = inn.length := by rw [hz]; exact delG_len _ _ _ _
  rw [← hz] at hdl ⊢
  simp only [hlo] at hme
  simp only [f2, hany, List.length_map, go_sem]
  repeat refine And.intro (by first | omega | exact ⟨by omega, by omega⟩ | exact okS (by kernel_rfl)) ?_
  refine ⟨okDyn_num (fun x => x.i) (by kernel_rfl), ?_⟩
  repeat refine And.intro (by first | omega | exact ⟨by omega, by omega⟩ | exact okS (by kernel_rfl)) ?_
  refine CallVC.same (hco _ _ _) ?_
  simp only [hme, hpl, nm_beq, List.length_map, go_sem]
  repeat refine And.intro (by first | omega | exact ⟨by omega, by omega⟩ | exact okS (by kernel_rfl)) ?_
  refine CallVC.gen (args2 := [.agg [.sl ⟨L + 1, 1184⟩ 0 out.length, .sl ⟨L + 1, 1185⟩ 0 inn.length, .fs 8 (ps3.map Dat.row), .int .i64 num, .int .i64 seen, .sl ⟨L + 1, 1187⟩ 0 asked.length]]) (by simp [Wk, WkL, List.take_of_length_le]) (hdl _ _ _ ⟨L + 1, 1185⟩ ⟨L + 1, 1184⟩ ⟨L + 1, 1187⟩ out.length asked.length (.inr ⟨rfl, by simp⟩) (Nat.le_refl _) (Nat.le_refl _) (by simp [wkNL, wkN, unown, SF.upd, SF.set])) ?_
  simp only [wkNL, wkN, unown, go_sem]
  repeat refine And.intro (by first | omega | exact ⟨by omega, by omega⟩ | exact okS (by kernel_rfl)) ?_
  exact PostF.of (p := True) (v0 := .tup [.agg [.sl ⟨L + 1, 1184⟩ 0 out.length, .sl ⟨L + 1, 1185⟩ 0 inn.length, .fs 8 (z.2.1.map Dat.row), .int .i64 num, .int .i64 seen, .sl ⟨L + 1, 1187⟩ 0 asked.length], .fs 4 (z.2.2.map Msg.row), .int .i64 0] ) (.inr rfl) (by simp only [resVal, resVals, resVal1, one, go_sem]) trivial (by simp [Wk, WkL, Tx.look, List.take_of_length_le, hzl]) (by simp [wkN, wkNL]) (by simp [Tx.nf, nfl]) trivial (by simp [UpdAll, keys])
 | false =>
  by_cases hld : lead d.sq (inn.getD d.st.toNat 0) 16 < 0
  ·have g4 : decide (lead d.sq (inn.getD d.st.toNat 0) 16 < 0) = true := dT hld
   have e : takeG inn ps d = (inn, ps, []) := by unfold takeG; rw [← tsn_any, hda, hlo, g4]; rfl
   rw [e]
   simp only [hany, r1, eI, List.length_map, go_sem]
   repeat refine And.intro (by first | omega | exact ⟨by omega, by omega⟩ | exact okS (by kernel_rfl)) ?_
   refine CallVC.same (hle _ _ _) ?_
   simp only [g4, go_sem]
   repeat refine And.intro (by first | omega | exact ⟨by omega, by omega⟩ | exact okS (by kernel_rfl)) ?_
   refine ⟨okDyn_num (fun x => x.i) (by kernel_rfl), ?_⟩
   repeat refine And.intro (by first | omega | exact ⟨by omega, by omega⟩ | exact okS (by kernel_rfl)) ?_
   exact PostF.of (p := True) (v0 := .tup [.agg [.fs 1 (out.map eI), .fs 1 (inn.map eI), .fs 8 (ps.map Dat.row), .int .i64 num, .int .i64 seen, .fs 1 (asked.map eI)], .nilS, .int .i64 0]) (.inr rfl) (by simp only [resVal, resVals, resVal1, one, go_sem]) trivial (by simp [Wk, WkL]) (by simp [wkN, wkNL]) (by simp [Tx.nf, nfl]) trivial (by simp [UpdAll, keys])
  ·have g4 : decide (lead d.sq (inn.getD d.st.toNat 0) 16 < 0) = false := dF hld
   simp only [hany, r1, eI, List.length_map, go_sem]
   repeat refine And.intro (by first | omega | exact ⟨by omega, by omega⟩ | exact okS (by kernel_rfl)) ?_
   refine CallVC.same (hle _ _ _) ?_
   have hpn : PsOk inn (ps ++ [d]) := psOk_add hP hl (by unfold partOk; rw [hd]; simp only [Bool.true_and, Bool.and_eq_true, decide_eq_true_eq, Bool.or_eq_true]; exact ⟨hst, .inr (by omega)⟩) hda
   have e : takeG inn ps d = delG (ps ++ [d]).length inn (ps ++ [d]) [] := by
    unfold takeG
    rw [← tsn_any, hda, hlo, g4]; simp
   obtain ⟨ps3, hps3⟩ : ∃ x, x = ps ++ [d] := ⟨_, rfl⟩
   have hdl := fun F L nx m mo ma ol al hm hmo hma hFm => refDeliver_ok (F := F) (L := L) (nx := nx) m mo ma ol al hm hmo hma num seen inn ps3 (by rw [hps3]; exact hpn.delP hS.i3 hS.i2) hFm
   have hme : ps.map Dat.row ++ [[.int .i64 d.tsn, .int .i64 d.st, .int .i64 d.sq, .int .i64 d.pr, .bool d.fi, .bool d.la, .bool d.lo, .str d.pl]] = ps3.map Dat.row := by rw [hps3]; simp [Dat.row]
   have hpl : ps.length + 1 = ps3.length := by rw [hps3]; simp
   rw [← hps3] at e
   rw [e]
   obtain ⟨z, hz⟩ : ∃ z, z = delG ps3.length inn ps3 [] := ⟨_, rfl⟩
   have hzl : z.1.length = inn.length := by rw [hz]; exact delG_len _ _ _ _
   rw [← hz] at hdl ⊢
   simp only [hlo] at hme
   simp only [g4, f2, List.length_map, go_sem]
   repeat refine And.intro (by first | omega | exact ⟨by omega, by omega⟩ | exact okS (by kernel_rfl)) ?_
   refine ⟨okDyn_num (fun x => x.i) (by kernel_rfl), ?_⟩
   repeat refine And.intro (by first | omega | exact ⟨by omega, by omega⟩ | exact okS (by kernel_rfl)) ?_
   refine CallVC.same (hco _ _ _) ?_
   simp only [hme, hpl, nm_beq, List.length_map, go_sem]
   repeat refine And.intro (by first | omega | exact ⟨by omega, by omega⟩ | exact okS (by kernel_rfl)) ?_
   refine CallVC.gen (args2 := [.agg [.sl ⟨L + 1, 1472⟩ 0 out.length, .sl ⟨L + 1, 1473⟩ 0 inn.length, .fs 8 (ps3.map Dat.row), .int .i64 num, .int .i64 seen, .sl ⟨L + 1, 1475⟩ 0 asked.length]]) (by simp [Wk, WkL, List.take_of_length_le]) (hdl _ _ _ ⟨L + 1, 1473⟩ ⟨L + 1, 1472⟩ ⟨L + 1, 1475⟩ out.length asked.length (.inr ⟨rfl, by simp⟩) (Nat.le_refl _) (Nat.le_refl _) (by simp [wkNL, wkN, unown, SF.upd, SF.set])) ?_
   simp only [wkNL, wkN, unown, go_sem]
   repeat refine And.intro (by first | omega | exact ⟨by omega, by omega⟩ | exact okS (by kernel_rfl)) ?_
   exact PostF.of (p := True) (v0 := .tup [.agg [.sl ⟨L + 1, 1472⟩ 0 out.length, .sl ⟨L + 1, 1473⟩ 0 inn.length, .fs 8 (z.2.1.map Dat.row), .int .i64 num, .int .i64 seen, .sl ⟨L + 1, 1475⟩ 0 asked.length], .fs 4 (z.2.2.map Msg.row), .int .i64 0] ) (.inr rfl) (by simp only [resVal, resVals, resVal1, one, go_sem]) trivial (by simp [Wk, WkL, Tx.look, List.take_of_length_le, hzl]) (by simp [wkN, wkNL]) (by simp [Tx.nf, nfl]) trivial (by simp [UpdAll, keys])
end Go.Proofs.YtfhhbkehlfipgaaGreat
end
section
namespace Go.Proofs.YtfhhbkehlfipgaaGreat
open Go.Tx
set_option maxRecDepth 100000
set_option maxHeartbeats 16000000
end Go.Proofs.YtfhhbkehlfipgaaGreat
end
section
namespace Go.Proofs.YtfhhbkehlfipgaaGreat
open Go.Tx
set_option maxRecDepth 100000
set_option maxHeartbeats 16000000
end Go.Proofs.YtfhhbkehlfipgaaGreat
end
section
namespace Go.Proofs.YtfhhbkehlfipgaaGreat
open Go.Tx
set_option maxRecDepth 100000
set_option maxHeartbeats 16000000
def oU (k : Nat) : List PV := [.int .u8 k]
end Go.Proofs.YtfhhbkehlfipgaaGreat
end
