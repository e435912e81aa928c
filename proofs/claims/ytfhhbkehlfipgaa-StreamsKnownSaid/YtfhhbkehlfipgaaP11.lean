/- Lemmas for the walk: YC24, YC16, YC25, YC26, YC27, YC28, YC29. -/
import Derived.Test.YtfhhbkehlfipgaaP10
import Derived.Test.YtfhhbkehlfipgaaP09
set_option linter.all false
section
namespace Go.Proofs.Ytfhhbkehlfipgaa
open Go.Tx
set_option maxRecDepth 100000
set_option maxHeartbeats 16000000
def InnV (F : SF) (v : PV) (rd : List Nm) (inn : List Int) : Prop :=
 (v = .fs 1 (inn.map eI) ∧ rd = []) ∨ ∃ m o, v = .sl m 0 inn.length ∧ rd = [m] ∧ F m = some (.rows 3 1 o true (inn.map eI))
theorem mPutV_new : ∀ (ps : List Dat) (t : Int) (v : PV), getT ps t = none → mPutV (ps.map tK) (ps.map tV) t v = ps.map tV ++ [v]
 | [], t, v, _ => rfl
 | d :: ps, t, v, h => by
  simp only [getT, List.find?_cons] at h
  split at h
  ·cases h
  ·rename_i hne
   simp only [List.map_cons, tK, mPutV]
   rw [if_neg (by simpa using hne)]
   have := mPutV_new ps t v h
   rw [this]; rfl
theorem mPutK_new (ps : List Dat) (t : Int) (h : getT ps t = none) : mPutK (ps.map tK) (ps.map tV) t = ps.map tK ++ [.int .i64 t] := by
 unfold mPutK
 rw [mGet_map, h]; rfl
theorem getT_take {ps : List Dat} (hnd : (ps.map Dat.tsn).Nodup) {i : Nat} (hi : i < ps.length) : getT (ps.take i) (ps[i]).tsn = none := by
 unfold getT
 rw [List.find?_eq_none]
 intro x hx hc
 obtain ⟨j, hj, rfl⟩ := List.getElem_of_mem hx
 rw [List.length_take] at hj
 simp only [List.getElem_take, beq_iff_eq] at hc
 have h1 : (ps.map Dat.tsn)[j]'(by simp; omega) = (ps.map Dat.tsn)[i]'(by simpa using hi) := by simpa using hc
 have := (List.getElem_inj hnd).1 h1
 omega
theorem compG_ne (ps : List Dat) (f : Dat) : ∀ (k : Nat) (d : Dat) (tx : List UInt8) (ns : List Int) (r : List UInt8 × List Int), compG ps f k d tx ns = some r → 0 < r.2.length
 | 0, _, _, _, _, h => by simp [compG] at h
 | k + 1, d, tx, ns, r, h => by
  rw [compG] at h
  split at h
  ·cases h
  ·split at h
   ·injection h with h; subst h; simp
   ·split at h
    ·cases h
    ·exact compG_ne ps f k _ _ _ r h
theorem complete_ne {ps : List Dat} {f : Dat} {m : Msg} {ns : List Int} (h : complete ps f = some (m, ns)) : 0 < ns.length := by
 unfold complete at h
 split at h
 ·cases hc : compG ps f (ps.length + 1) f [] [] with
  | none => rw [hc] at h; cases h
  | some r =>
   rw [hc] at h
   simp only [Option.map_some, Option.some.injEq, Prod.mk.injEq] at h
   rw [← h.2]; exact compG_ne _ _ _ _ _ _ _ hc
 ·cases h
theorem rowD {ps : List Dat} {i : Nat} (h : i < ps.length) : (ps.map Dat.row).getD i [] = (ps[i]).row := by simp [h, List.getD_eq_getElem?_getD]
theorem due_ok {F : SF} {L nx : Nat} (n : Nm) (hn : n.l ≤ L) (o p : Bool) (out num seen asked iv : PV) (inn : List Int) (rd : List Nm) (hiv : InnV F iv rd inn) (hrd : ∀ m ∈ rd, m.l ≤ L) (ps : List Dat) (hlen : ps.length ≤ 80) (hall : ∀ x ∈ ps, x.ok = true) (hst : ∀ x ∈ ps, x.st < inn.length) (hnd : (ps.map Dat.tsn).Nodup) (hil : inn.length ≤ 1000)
  (hF : F n = some (.rows 106 6 o p [[out, iv, .fs 8 (ps.map Dat.row), num, seen, asked]])) :
  Con Try.prog 63 [.ptr n 0 0] F L nx nx (resC (dueG inn ps)) [] ([n] ++ rd) := by
 refine bdy Try.f63 (hrd := (by simp only [List.cons_append, List.nil_append, List.mem_cons]; rintro m (rfl | h); exact hn; exact hrd m h)) ?_
 intro F3 hF1 hF2
 have hF := (hF1 n (by simp)).trans hF
 have o1 := nm_out' hn
 have o2 := nm_out hn
 simp only [Try.f63, cx, hF, o2, Nat.add_zero, go_sem, meths]
 refine loopK.intro _ _ (I := fun i : Nat => ⟨[some (.ptr n 0 0), none, some (.ptr ⟨L + 1, 0⟩ 0 0), some (.nilS), some (.mp ⟨L + 1, 64⟩), none, none, none, none, none, none, none, none, none, none, none, some (.fs 8 (ps.map Dat.row)), some (.int .i64 ps.length), some (.int .i64 i), none, none, none, none, none, none, none, none, none, none, none, none, none, none, none, none, none, none, none, none, none, none, none, none, none, none, none, none, none, none, none, none, none, none, none, none, none, none, none, none, none, none, none, none, none, none, none, none, none],
  [(⟨L + 1, 0⟩, .rows 37 4 true true [[.int .i64 0, .int .i64 0, .bool false, .str []]]), (⟨L + 1, 64⟩, .map true true ((ps.take i).map tK) ((ps.take i).map tV))], 10000 * (i + 1)⟩) (pre := fun i => i ≤ ps.length) (μ := fun i => ps.length - i) 0 (by omega) ?_ ?_
 ·refine Sub.of (hfz hF2) (by simp only [go_sem, subT, and_self, List.length_map, Int.natCast_zero]) ?_ (by simp only [go_sem, subK, and_self, true_or, or_true, List.not_mem_nil, List.mem_cons]) (by simp)
  simp [subH, Tx.look]
 ·intro i hi
  by_cases hlt : i < ps.length
  ·have f1 : decide ((i : Int) < (ps.length : Int)) = true := dT (by omega)
   have r0 := rowD hlt
   have ht := getT_take hnd hlt
   have k1 := mPutK_new (ps.take i) _ ht
   have k2 := mPutV_new (ps.take i) (ps[i]).tsn (.agg (ps[i]).row) ht
   have e1 : (ps.take (i + 1)).map tK = (ps.take i).map tK ++ [.int .i64 (ps[i]).tsn] := by rw [List.take_succ_eq_append_getElem hlt, List.map_append]; rfl
   have e2 : (ps.take (i + 1)).map tV = (ps.take i).map tV ++ [.agg (ps[i]).row] := by rw [List.take_succ_eq_append_getElem hlt, List.map_append]; rfl
   rw [← e1] at k1
   rw [← e2] at k2
   have hik : intKeys ((ps.take i).map tK) := by intro k hk; obtain ⟨y, _, rfl⟩ := List.mem_map.1 hk; exact ⟨_, rfl⟩
   simp only [Dat.row] at k2
   simp only [f1, r0, Dat.row, k1, k2, List.length_map, Nat.add_zero, go_sem]
   repeat refine sd1 ?_
   refine ⟨i + 1, by omega, by omega, ?_⟩
   refine Sub.of (hfz hF2) (by simp only [go_sem, subT, and_self, Int.natCast_succ]) ?_ (by simp only [go_sem, subK, and_self, true_or, or_true, List.not_mem_nil, List.mem_cons]) (by simp only []; omega)
   simp [subH, Tx.look]
  ·have f1 : decide ((i : Int) < (ps.length : Int)) = false := dF (by omega)
   have e : i = ps.length := by omega
   subst e
   have e3 : ps.take ps.length = ps := List.take_of_length_le (by omega)
   simp only [f1, hF, o2, e3, Nat.add_zero, go_sem]
   obtain ⟨g, hg⟩ : ∃ g : Dat → Option (Msg × List Int), g = fun d => if !d.lo && d.sq != inn.getD d.st.toNat 0 then none else complete ps d := ⟨_, rfl⟩
   have hdue : dueG inn ps = ps.findSome? g := by rw [hg]; rfl
   refine loopK.intro _ _ (I := fun i : Nat => ⟨[some (.ptr n 0 0), none, some (.ptr ⟨L + 1, 0⟩ 0 0), some (.nilS), some (.mp ⟨L + 1, 64⟩), none, none, none, none, none, none, none, none, none, none, none, none, none, none, none, none, none, none, none, none, none, none, none, none, none, none, some (.fs 8 (ps.map Dat.row)), some (.int .i64 ps.length), some (.int .i64 i), none, none, none, none, none, none, none, none, none, none, none, none, none, none, none, none, none, none, none, none, none, none, none, none, none, none, none, none, none, none, none, none, none, none],
    [(⟨L + 1, 0⟩, .rows 37 4 true true [[.int .i64 0, .int .i64 0, .bool false, .str []]]), (⟨L + 1, 64⟩, .map false true (ps.map tK) (ps.map tV))], 10000 * ((ps.length + 10 + i) + 1)⟩) (pre := fun i => i ≤ ps.length ∧ dueG inn ps = (ps.drop i).findSome? g) (μ := fun i => ps.length - i) 0 ⟨by omega, hdue⟩ ?_ ?_
   ·refine Sub.trans (Sub.letGo [⟨L + 1, 64⟩]) ?_
    refine Sub.of (hfz hF2) (by simp only [go_sem, subT, and_self, List.length_map, Int.natCast_zero]) ?_ (by simp [subK, keys, unown, Tx.look, updH, setH]) (by simp only []; omega)
    simp [subH, Tx.look, unown, updH, setH]
   ·rintro i ⟨hi, hdi⟩
    by_cases hlt : i < ps.length
    ·have f1 : decide ((i : Int) < (ps.length : Int)) = true := dT (by omega)
     have r0 := rowD hlt
     have hd := List.getElem_mem hlt
     have hdr : ps.drop i = ps[i] :: ps.drop (i + 1) := List.drop_eq_getElem_cons hlt
     rw [hdr, List.findSome?_cons] at hdi
     obtain ⟨d, hdd⟩ : ∃ d, d = ps[i] := ⟨_, rfl⟩
     rw [← hdd] at r0 hd hdi
     have hok := hall d hd
     have hs2 := hst d hd
     have hs1 : 0 ≤ d.st := by simp only [Dat.ok, serB, Bool.and_eq_true, decide_eq_true_eq] at hok; omega
     have r1 := getD_eI inn (i := d.st.toNat) (by omega)
     have f0 : decide ((0 : Int) < ((0 : Nat) : Int)) = false := rfl
     have f0 : decide ((0 : Int) < ((0 : Nat) : Int)) = false := rfl
     cases hlo : d.lo with
     | true =>
      have hgd : g d = complete ps d := by rw [hg]; simp [hlo]
      simp only [f1, r0, Dat.row, Nat.add_assoc, hlo, List.length_map, go_sem]
      refine ⟨⟨by omega, by omega⟩, hlt, by kernel_rfl, okDyn_num (fun _ => 0) (by kernel_rfl), ?_⟩
      rw [show ([.int .i64 d.tsn, .int .i64 d.st, .int .i64 d.sq, .int .i64 d.pr, .bool d.fi, .bool d.la, .bool true, .str d.pl] : List PV) = d.row by rw [Dat.row, hlo]]
      refine CallVC.gen (args2 := [.ptr n 0 0, .agg d.row, mapP ps]) ⟨(wk_refl _ _).1, (wk_refl _ _).1, by simp [Wk, mapP], trivial⟩ (complete_ok _ ps d hlen hall hd) ?_
      cases hc : complete ps d with
      | none =>
       rw [hgd, hc] at hdi
       simp only [f0, nS2, Nat.add_assoc, hlo, Dat.row, resC, Msg.zero, Msg.row, mapP, wkNL, wkN, unown, List.map_nil, go_sem]
       repeat refine sd1 ?_
       refine ⟨i + 1, ⟨by omega, hdi⟩, by omega, ?_⟩
       refine Sub.o hF2 ?_
       simp [subH, Tx.look]
      | some r =>
       obtain ⟨m, ns⟩ := r
       rw [hgd, hc] at hdi
       rw [hdi]
       have f2 : decide ((0 : Int) < (ns.length : Int)) = true := dT (by have := complete_ne hc; omega)
       simp only [f2, nS2, Nat.add_assoc, hlo, Dat.row, resC, Msg.row, mapP, wkNL, wkN, unown, List.length_map, List.map_nil, go_sem]
       exact PostF.same (p := True) (.inr rfl) (by simp only [resVal, resVals, resVal1, one, go_sem]) trivial (by simp [Tx.nf, nfl]) (by simp [UpdAll])
     | false =>
      rcases hiv with ⟨rfl, rfl⟩ | ⟨m0, o0, rfl, rfl, hm0⟩
      ·skip
       cases hsq : d.sq != inn.getD d.st.toNat 0 with
       | true =>
        have hgd : g d = none := by rw [hg]; simp only [hlo, hsq]; rfl
        rw [hgd] at hdi
        simp only [f1, r0, r1, Dat.row, hF, o2, hsq, Nat.add_assoc, hlo, eI, List.length_map, Nat.add_zero, go_sem]
        refine ⟨⟨by omega, by omega⟩, hlt, by kernel_rfl, ⟨by omega, by omega⟩, by omega, okDyn_num (fun _ => 0) (by kernel_rfl), ⟨by omega, by omega⟩, i + 1, ⟨by omega, hdi⟩, by omega, ?_⟩
        refine Sub.o hF2 ?_
        simp [subH, Tx.look]
       | false =>
        have hgd : g d = complete ps d := by rw [hg]; simp only [hlo, hsq]; rfl
        simp only [f1, r0, r1, Dat.row, hF, o2, hsq, Nat.add_assoc, hlo, eI, List.length_map, Nat.add_zero, go_sem]
        refine ⟨⟨by omega, by omega⟩, hlt, by kernel_rfl, ⟨by omega, by omega⟩, by omega, okDyn_num (fun _ => 0) (by kernel_rfl), ?_⟩
        rw [show ([.int .i64 d.tsn, .int .i64 d.st, .int .i64 d.sq, .int .i64 d.pr, .bool d.fi, .bool d.la, .bool false, .str d.pl] : List PV) = d.row by rw [Dat.row, hlo]]
        refine CallVC.gen (args2 := [.ptr n 0 0, .agg d.row, mapP ps]) ⟨(wk_refl _ _).1, (wk_refl _ _).1, by simp [Wk, mapP], trivial⟩ (complete_ok _ ps d hlen hall hd) ?_
        cases hc : complete ps d with
        | none =>
         rw [hgd, hc] at hdi
         simp only [f0, nS2, Nat.add_assoc, hlo, Dat.row, resC, Msg.zero, Msg.row, mapP, wkNL, wkN, unown, List.map_nil, go_sem]
         repeat refine sd1 ?_
         refine ⟨i + 1, ⟨by omega, hdi⟩, by omega, ?_⟩
         refine Sub.o hF2 ?_
         simp [subH, Tx.look]
        | some r =>
         obtain ⟨m, ns⟩ := r
         rw [hgd, hc] at hdi
         rw [hdi]
         have f2 : decide ((0 : Int) < (ns.length : Int)) = true := dT (by have := complete_ne hc; omega)
         simp only [f2, nS2, Nat.add_assoc, hlo, Dat.row, resC, Msg.row, mapP, wkNL, wkN, unown, List.length_map, List.map_nil, go_sem]
         exact PostF.same (p := True) (.inr rfl) (by simp only [resVal, resVals, resVal1, one, go_sem]) trivial (by simp [Tx.nf, nfl]) (by simp [UpdAll])
      ·have hm0 := (hF1 m0 (by simp)).trans hm0
       have q1 := nm_out' (hrd m0 (by simp))
       have q2 := nm_out (hrd m0 (by simp))
       cases hsq : d.sq != inn.getD d.st.toNat 0 with
       | true =>
        have hgd : g d = none := by rw [hg]; simp only [hlo, hsq]; rfl
        rw [hgd] at hdi
        simp only [f1, r0, r1, Dat.row, hF, o2, hm0, q2, hsq, Nat.add_assoc, hlo, eI, List.length_map, Nat.add_zero, go_sem]
        refine ⟨⟨by omega, by omega⟩, hlt, by kernel_rfl, ⟨by omega, by omega⟩, by omega, okDyn_num (fun _ => 0) (by kernel_rfl), ⟨by omega, by omega⟩, i + 1, ⟨by omega, hdi⟩, by omega, ?_⟩
        refine Sub.o hF2 ?_
        simp [subH, Tx.look]
       | false =>
        have hgd : g d = complete ps d := by rw [hg]; simp only [hlo, hsq]; rfl
        simp only [f1, r0, r1, Dat.row, hF, o2, hm0, q2, hsq, Nat.add_assoc, hlo, eI, List.length_map, Nat.add_zero, go_sem]
        refine ⟨⟨by omega, by omega⟩, hlt, by kernel_rfl, ⟨by omega, by omega⟩, by omega, okDyn_num (fun _ => 0) (by kernel_rfl), ?_⟩
        rw [show ([.int .i64 d.tsn, .int .i64 d.st, .int .i64 d.sq, .int .i64 d.pr, .bool d.fi, .bool d.la, .bool false, .str d.pl] : List PV) = d.row by rw [Dat.row, hlo]]
        refine CallVC.gen (args2 := [.ptr n 0 0, .agg d.row, mapP ps]) ⟨(wk_refl _ _).1, (wk_refl _ _).1, by simp [Wk, mapP], trivial⟩ (complete_ok _ ps d hlen hall hd) ?_
        cases hc : complete ps d with
        | none =>
         rw [hgd, hc] at hdi
         simp only [f0, nS2, Nat.add_assoc, hlo, Dat.row, resC, Msg.zero, Msg.row, mapP, wkNL, wkN, unown, List.map_nil, go_sem]
         repeat refine sd1 ?_
         refine ⟨i + 1, ⟨by omega, hdi⟩, by omega, ?_⟩
         refine Sub.o hF2 ?_
         simp [subH, Tx.look]
        | some r =>
         obtain ⟨m, ns⟩ := r
         rw [hgd, hc] at hdi
         rw [hdi]
         have f2 : decide ((0 : Int) < (ns.length : Int)) = true := dT (by have := complete_ne hc; omega)
         simp only [f2, nS2, Nat.add_assoc, hlo, Dat.row, resC, Msg.row, mapP, wkNL, wkN, unown, List.length_map, List.map_nil, go_sem]
         exact PostF.same (p := True) (.inr rfl) (by simp only [resVal, resVals, resVal1, one, go_sem]) trivial (by simp [Tx.nf, nfl]) (by simp [UpdAll])
    ·have f1 : decide ((i : Int) < (ps.length : Int)) = false := dF (by omega)
     have e : i = ps.length := by omega
     subst e
     have e4 : dueG inn ps = none := by rw [hdi, List.drop_of_length_le (by omega)]; rfl
     rw [e4]
     simp only [f1, Nat.add_assoc, resC, Msg.zero, Msg.row, go_sem]
     exact PostF.rs (v0 := .tup [.agg [.int .i64 0, .int .i64 0, .bool false, .str []], .nilS]) (.inr rfl)
def strV0 (out inn : List Int) (num seen : Int) (asked : List Int) : PV := .agg [.fs 1 (out.map eI), .fs 1 (inn.map eI), .fs 8 [], .int .i64 num, .int .i64 seen, .fs 1 (asked.map eI)]
structure Str0 (out inn : List Int) (num seen : Int) (asked : List Int) : Prop where
 o1 : 1 ≤ out.length
 o2 : out.length ≤ 16
 o3 : out.all (serB 16) = true
 i1 : 1 ≤ inn.length
 i2 : inn.length ≤ 16
 i3 : inn.all (serB 16) = true
 n : [num].all (serB 32) = true
 s : seen = -1 ∨ [seen].all (serB 32) = true
 a : listedB asked out.length = true
 a2 : asked.length ≤ 1000000
theorem ask0_ok {F : SF} {L nx : Nat} (out inn : List Int) (num seen : Int) (hS : Str0 out inn num seen []) (last : Int) (l : List Int) (h1 : [last].all (serB 32) = true) (h2 : 1 ≤ l.length) (h3 : listedB l out.length = true) (h4 : l.length ≤ 1000) :
  Con Try.prog 15 [strV0 out inn num seen [], .int .i64 last, .fs 1 (l.map eI)] F L nx nx (.tup [strV0 out inn num seen l, rstP 1 num last 0 (.fs 1 (l.map eI)), .int .i64 0]) [] [] := by
 refine bdy Try.f15 ?_
 intro F3 hF1 hF2
 have f0 : ((0 : Int) != 0) = false := rfl
 have f1 : decide ((l.length : Int) < 1) = false := dF (by omega)
 have f2 : decide ((0 : Int) < ((0 : Nat) : Int)) = false := rfl
 simp only [Try.f15, cx, strV0, rstP, go_sem, meths]
 refine CallVC.same (begin0_ok out inn [] num seen hS.s hS.o1 hS.o2 hS.o3 hS.i1 hS.i2 hS.i3 hS.n hS.a hS.a2) ?_
 simp only [f0, go_sem]
 refine CallVC.pure (args2 := [_, .fs 1 ([last].map eI)]) ⟨rfl, by simp [Wk, eI], trivial⟩ (serial_ok 32 [last] (by omega) (by omega) (by simp)) rfl ?_
 simp only [h1, f1, List.length_map, Nat.add_zero, go_sem]
 refine CallVC.same (listed_ok l out.length (by omega)) ?_
 simp only [h3, f2, go_sem]
 refine CallVC.same (cloneI_ok l (by omega)) ?_
 simp only [Nat.add_zero, go_sem]
 refine ⟨by kernel_rfl, CallVC.same (cloneI_ok l (by omega)) ?_⟩
 simp only [go_sem]
 refine ⟨okDyn_num (fun x => x.i) (by kernel_rfl), ?_⟩
 exact PostF.rs (v0 := .tup [.agg [.sl ⟨L + 1, 161⟩ 0 out.length, .sl ⟨L + 1, 162⟩ 0 inn.length, .sl ⟨L + 1, 163⟩ 0 0, .int .i64 num, .int .i64 seen, .sl ⟨L + 1, 1157⟩ 0 l.length], .agg [.int .i64 1, .int .i64 num, .int .i64 last, .int .i64 0, .sl ⟨L + 1, 1542⟩ 0 l.length], .int .i64 0]) (.inr rfl)
theorem mGet_mapF (f : Dat → PV) (ps : List Dat) (t : Int) : mGet (ps.map tK) (ps.map f) t = (getT ps t).map f := by
 induction ps with
 | nil => rfl
 | cons d ps ih =>
  simp only [List.map_cons, tK, mGet, getT, List.find?_cons]
  by_cases h : d.tsn = t
  ·subst h; simp
  ·rw [if_neg h, show (d.tsn == t) = false by simpa using h]
   exact ih
theorem mPutV_newF (f : Dat → PV) : ∀ (ps : List Dat) (t : Int) (v : PV), getT ps t = none → mPutV (ps.map tK) (ps.map f) t v = ps.map f ++ [v]
 | [], t, v, _ => rfl
 | d :: ps, t, v, h => by
  simp only [getT, List.find?_cons] at h
  split at h
  ·cases h
  ·rename_i hne
   simp only [List.map_cons, tK, mPutV]
   rw [if_neg (by simpa using hne)]
   have := mPutV_newF f ps t v h
   rw [this]; rfl
theorem mPutK_newF (f : Dat → PV) (ps : List Dat) (t : Int) (h : getT ps t = none) : mPutK (ps.map tK) (ps.map f) t = ps.map tK ++ [.int .i64 t] := by
 unfold mPutK
 rw [mGet_mapF, h]; rfl
def tB (_ : Dat) : PV := .bool true
theorem serB16_at {inn : List Int} (h : inn.all (serB 16) = true) {k : Nat} (hk : k < inn.length) : 0 ≤ inn.getD k 0 ∧ inn.getD k 0 < 65536 := by
 have h16 : (2 : Int) ^ (Int.toNat 16) = 65536 := rfl
 rw [List.all_eq_true] at h
 have := h inn[k] (List.getElem_mem hk)
 simp only [serB, Bool.and_eq_true, decide_eq_true_eq, h16] at this
 simpa [List.getD_eq_getElem?_getD, hk] using this
theorem Dat.ok_bounds {d : Dat} (h : d.ok = true) : 0 ≤ d.tsn ∧ d.tsn < 4294967296 ∧ 0 ≤ d.st ∧ d.st < 65536 ∧ 0 ≤ d.sq ∧ d.sq < 65536 ∧ 1 ≤ d.pl.length ∧ d.pl.length ≤ 1100 := by
 have h32 : (2 : Int) ^ (Int.toNat 32) = 4294967296 := rfl
 have h16 : (2 : Int) ^ (Int.toNat 16) = 65536 := rfl
 simp only [Dat.ok, serB, Bool.and_eq_true, decide_eq_true_eq, h32, h16] at h
 omega
theorem lead16_ok {F : SF} {L nx : Nat} (x y : Int) (hx : 0 ≤ x) (hx2 : x < 65536) (hy : 0 ≤ y) (hy2 : y < 65536) : Con Try.prog 48 [.int .i64 x, .int .i64 y, .int .i64 16] F L nx nx (.int .i64 (lead x y 16)) [] [] :=
 lead_ok x y 16 (by omega) (by omega) hx hx2 hy hy2
theorem partOk_ok {inn : List Int} {d : Dat} (h : partOk inn d = true) : d.ok = true ∧ d.st < inn.length ∧ (d.lo = true ∨ 0 ≤ lead d.sq (inn.getD d.st.toNat 0) 16) := by
 simpa only [partOk, Bool.and_eq_true, decide_eq_true_eq, Bool.or_eq_true, and_assoc] using h
def strV (out inn : List Int) (num seen : Int) (asked : List Int) (ps : List Dat) : PV := .agg [.fs 1 (out.map eI), .fs 1 (inn.map eI), .fs 8 (ps.map Dat.row), .int .i64 num, .int .i64 seen, .fs 1 (asked.map eI)]
theorem check_ok {F : SF} {L nx : Nat} (out inn asked : List Int) (num seen : Int) (hS : Str0 out inn num seen asked) (ps : List Dat) (hP : PsOk inn ps) (hD : dueG inn ps = none) :
  Con Try.prog 31 [strV out inn num seen asked ps] F L nx nx (.int .i64 0) [] [] := by
 obtain ⟨ho, ho2, ho3, hi, hi2, hi3, hn, hsn, ha, ha2⟩ := hS
 have hp80 := hP.len
 refine bdy Try.f31 ?_
 intro F3 hF1 hF2
 simp only [Try.f31, cx, strV, Nat.add_zero, go_sem, meths]
 refine loopK.intro _ _ (I := fun i : Nat => ⟨[none, some (.ptr ⟨L + 1, 0⟩ 0 0), some (.int .i64 0), none, none, none, none, none, none, none, none, none, none, none, some (.agg [.fs 1 (out.map eI), .fs 1 (inn.map eI)]), some (.int .i64 i), none, none, none, none, none, none, none, none, none, none, none, none, none, none, none, none, none, none, none, none, none, none, none, none, none, none, none, none, none, none, none, none, none, none, none, none, none, none, none, none, none, none, none, none, none, none, none, none, none, none, none, none, none, none, none, none, none, none, none, none, none, none, none, none, none, none, none, none, none, none, none, none, none, none, none, none, none, none, none, none, none, none, none, none, none, none, none, none, none, none, none, none, none, none, none, none, none, none, none, none, none, none, none, none], [(⟨L + 1, 0⟩, .rows 34 6 true true [[.fs 1 (out.map eI), .fs 1 (inn.map eI), .fs 8 (ps.map Dat.row), .int .i64 num, .int .i64 seen, .fs 1 (asked.map eI)]])], 1000 * (i + 1)⟩) (pre := fun i => i ≤ 2) (μ := fun i => 2 - i) 0 (by omega) ?_ ?_
 ·exact Sub.of (hfz hF2) (by simp only [go_sem, subT, and_self, Int.natCast_zero]) (by simp [subH, Tx.look]) ⟨.inl rfl, trivial⟩ (by simp)
 ·intro i hi'
  have hc : i = 0 ∨ i = 1 ∨ i = 2 := by omega
  rcases hc with rfl | rfl | rfl
  ·have g1 : decide (((0 : Nat) : Int) < 2) = true := rfl
   have g2 : decide ((out.length : Int) < 1) = false := dF (by omega)
   have g3 : decide ((16 : Int) < (out.length : Int)) = false := dF (by omega)
   simp only [g1, g2, g3, List.length_map, go_sem]
   refine ⟨⟨by omega, by omega, by omega⟩, CallVC.same (serial_ok 16 out (by omega) (by omega) (by omega)) ?_⟩
   simp only [ho3, go_sem]
   refine ⟨⟨by omega, by omega⟩, 1, by omega, by omega, ?_⟩
   exact Sub.of (hfz hF2) (by simp only [go_sem, subT]; try trivial) (by simp [subH, Tx.look]) ⟨.inl rfl, trivial⟩ (by simp)
  ·have g1 : decide (((1 : Nat) : Int) < 2) = true := rfl
   have g2 : decide ((inn.length : Int) < 1) = false := dF (by omega)
   have g3 : decide ((16 : Int) < (inn.length : Int)) = false := dF (by omega)
   simp only [g1, g2, g3, List.length_map, go_sem]
   refine ⟨⟨by omega, by omega, by omega⟩, CallVC.same (serial_ok 16 inn (by omega) (by omega) (by omega)) ?_⟩
   simp only [hi3, go_sem]
   refine ⟨⟨by omega, by omega⟩, 2, by omega, by omega, ?_⟩
   exact Sub.of (hfz hF2) (by simp only [go_sem, subT]; try trivial) (by simp [subH, Tx.look]) ⟨.inl rfl, trivial⟩ (by simp)
  ·have g1 : decide (((2 : Nat) : Int) < 2) = false := rfl
   have g2 : decide ((80 : Int) < (ps.length : Int)) = false := dF (by have := hP.len; omega)
   simp only [g1, g2, List.length_map, go_sem]
   refine CallVC.pure (args2 := [_, .fs 1 ([num].map eI)]) ⟨rfl, ?_, trivial⟩ (serial_ok 32 [num] (by omega) (by omega) (by simp)) rfl ?_
   ·simp [Wk, eI]
   rcases hsn with hsn | hsn
   ·have fsn : (seen != -1) = false := neF hsn
    simp only [hn, fsn, wkNL, wkN, List.length_map, Nat.add_zero, go_sem]
    refine CallVC.same (listed_ok asked out.length (by omega)) ?_
    simp only [ha, go_sem]
    refine loopK.intro _ _ (I := fun i : Nat => ⟨[none, some (.ptr ⟨L + 1, 0⟩ 0 0), some (.int .i64 0), none, none, some (.mp ⟨L + 1, 3832⟩), none, none, none, none, none, none, none, none, none, none, none, none, none, none, none, none, none, none, none, none, none, none, none, none, none, none, none, none, none, none, none, none, none, none, none, none, none, none, none, none, none, none, none, none, none, none, none, none, none, none, none, none, none, none, none, none, none, none, none, none, some (.fs 8 (ps.map Dat.row)), some (.int .i64 ps.length), some (.int .i64 i), none, none, none, none, none, none, none, none, none, none, none, none, none, none, none, none, none, none, none, none, none, none, none, none, none, none, none, none, none, none, none, none, none, none, none, none, none, none, none, none, none, none, none, none, none, none, none, none, none, none, none], [(⟨L + 1, 0⟩, .rows 34 6 true true [[.fs 1 (out.map eI), .fs 1 (inn.map eI), .fs 8 (ps.map Dat.row), .int .i64 num, .int .i64 seen, .fs 1 (asked.map eI)]]), (⟨L + 1, 3832⟩, .map true true ((ps.take i).map tK) ((ps.take i).map tB))], if i = ps.length then 1000000 else 10000 * (i + 1)⟩) (pre := fun i => i ≤ ps.length) (μ := fun i => ps.length - i) 0 (by omega) ?_ ?_
    ·refine Sub.of (hfz hF2) (by simp only [go_sem, subT, and_self, List.length_map, Int.natCast_zero]) ?_ (by simp [subK, keys]) (by simp only []; split <;> omega)
     simp [subH, Tx.look]
    ·intro i hi
     by_cases hlt : i < ps.length
     ·have hiN : (i = ps.length) = False := by apply eq_false; omega
      have f1 : decide ((i : Int) < (ps.length : Int)) = true := dT (by omega)
      have r0 := rowD hlt
      have hd := hP.all _ (List.getElem_mem hlt)
      have ht := getT_take hP.nodup hlt
      have k0 := mGet_mapF tB (ps.take i) (ps[i]).tsn
      have k1 := mPutK_newF tB (ps.take i) _ ht
      have k2 := mPutV_newF tB (ps.take i) (ps[i]).tsn (.bool true) ht
      rw [ht] at k0
      have e1 : (ps.take (i + 1)).map tK = (ps.take i).map tK ++ [.int .i64 (ps[i]).tsn] := by rw [List.take_succ_eq_append_getElem hlt, List.map_append]; rfl
      have e2 : (ps.take (i + 1)).map tB = (ps.take i).map tB ++ [.bool true] := by rw [List.take_succ_eq_append_getElem hlt, List.map_append]; rfl
      rw [← e1] at k1
      rw [← e2] at k2
      have hik : intKeys ((ps.take i).map tK) := by intro k hk; obtain ⟨y, _, rfl⟩ := List.mem_map.1 hk; exact ⟨_, rfl⟩
      obtain ⟨d, hdd⟩ : ∃ d, d = ps[i] := ⟨_, rfl⟩
      rw [← hdd] at hd r0 k0 k1 k2
      simp only [partOk, Bool.and_eq_true, decide_eq_true_eq, Bool.or_eq_true] at hd
      obtain ⟨⟨hok, hst⟩, hle⟩ := hd
      obtain ⟨w1, w2, w3, w4, w5, w6, w7, w8⟩ := Dat.ok_bounds hok
      have f2 : decide ((inn.length : Int) ≤ d.st) = false := dF (by omega)
      have r1 := getD_eI inn (i := d.st.toNat) (by omega)
      obtain ⟨v1, v2⟩ := serB16_at hi3 (k := d.st.toNat) (by omega)
      simp only [f1, r0, Dat.row, nB, Nat.add_assoc, hiN, List.length_map, go_sem]
      repeat refine sd1 ?_
      rw [show ([.int .i64 d.tsn, .int .i64 d.st, .int .i64 d.sq, .int .i64 d.pr, .bool d.fi, .bool d.la, .bool d.lo, .str d.pl] : List PV) = d.row from rfl]
      refine CallVC.same (piece_ok d) ?_
      cases hlo : d.lo with
      | true =>
       simp only [hok, f2, k0, k1, k2, hlo, Option.map_none, Option.getD_none, Dat.row, nB, Nat.add_assoc, List.length_map, Nat.add_zero, go_sem]
       repeat refine sd1 ?_
       refine ⟨i + 1, by omega, by omega, ?_⟩
       refine Sub.of (hfz hF2) (by simp only [go_sem, subT, and_self, Int.natCast_succ]) ?_ (by simp [subK, keys]) (by simp only []; split <;> omega)
       simp [subH, Tx.look]
      | false =>
       have f3 : decide (lead d.sq (inn.getD d.st.toNat 0) 16 < 0) = false := dF (by have := hle.resolve_left (by rw [hlo]; simp); omega)
       simp only [hok, f2, r1, eI, k0, hlo, Option.map_none, Option.getD_none, Dat.row, nB, Nat.add_assoc, List.length_map, Nat.add_zero, go_sem]
       repeat refine sd1 ?_
       refine CallVC.same (lead16_ok d.sq (inn.getD d.st.toNat 0) w5 w6 v1 v2) ?_
       simp only [f3, k1, k2, Option.map_none, nB, Nat.add_assoc, Nat.add_zero, go_sem]
       repeat refine sd1 ?_
       refine ⟨i + 1, by omega, by omega, ?_⟩
       refine Sub.of (hfz hF2) (by simp only [go_sem, subT, and_self, Int.natCast_succ]) ?_ (by simp [subK, keys]) (by simp only []; split <;> omega)
       simp [subH, Tx.look]
     ·have f1 : decide ((i : Int) < (ps.length : Int)) = false := dF (by omega)
      have e : i = ps.length := by omega
      subst e
      simp only [f1, go_sem]
      have e3 : ps.take ps.length = ps := List.take_of_length_le (by omega)
      simp only [e3, go_sem]
      refine CallVC.same (due_ok ⟨L + 1, 1000096⟩ (Nat.le_refl _) true true (.fs 1 (out.map eI)) (.int .i64 num) (.int .i64 seen) (.fs 1 (asked.map eI)) (.fs 1 (inn.map eI)) inn [] (.inl ⟨rfl, rfl⟩) (by simp) ps hP.len (fun x hx => (partOk_ok (hP.all x hx)).1) (fun x hx => (partOk_ok (hP.all x hx)).2.1) hP.nodup (by omega) (by simp only [nm_eq, go_sem])) ?_
      rw [hD]
      have g5 : decide ((0 : Int) < ((0 : Nat) : Int)) = false := rfl
      have g6 : decide ((0 : Int) < 0) = false := rfl
      simp only [resC, Msg.zero, Msg.row, g5, go_sem]
      exact .int (.inr rfl) rfl rfl (by simp [UpdAll])
   ·have fsn : (seen != -1) = true := neT (by simp [serB] at hsn; omega)
    simp only [hn, fsn, wkNL, wkN, go_sem]
    refine CallVC.pure (args2 := [_, .fs 1 ([seen].map eI)]) ⟨rfl, by simp [Wk, eI], trivial⟩ (serial_ok 32 [seen] (by omega) (by omega) (by simp)) rfl ?_
    simp only [hsn, wkNL, wkN, List.length_map, Nat.add_zero, go_sem]
    refine CallVC.same (listed_ok asked out.length (by omega)) ?_
    simp only [ha, go_sem]
    refine loopK.intro _ _ (I := fun i : Nat => ⟨[none, some (.ptr ⟨L + 1, 0⟩ 0 0), some (.int .i64 0), none, none, some (.mp ⟨L + 1, 3960⟩), none, none, none, none, none, none, none, none, none, none, none, none, none, none, none, none, none, none, none, none, none, none, none, none, none, none, none, none, none, none, none, none, none, none, none, none, none, none, none, none, none, none, none, none, none, none, none, none, none, none, none, none, none, none, none, none, none, none, none, none, some (.fs 8 (ps.map Dat.row)), some (.int .i64 ps.length), some (.int .i64 i), none, none, none, none, none, none, none, none, none, none, none, none, none, none, none, none, none, none, none, none, none, none, none, none, none, none, none, none, none, none, none, none, none, none, none, none, none, none, none, none, none, none, none, none, none, none, none, none, none, none, none], [(⟨L + 1, 0⟩, .rows 34 6 true true [[.fs 1 (out.map eI), .fs 1 (inn.map eI), .fs 8 (ps.map Dat.row), .int .i64 num, .int .i64 seen, .fs 1 (asked.map eI)]]), (⟨L + 1, 3960⟩, .map true true ((ps.take i).map tK) ((ps.take i).map tB))], if i = ps.length then 1000000 else 10000 * (i + 1)⟩) (pre := fun i => i ≤ ps.length) (μ := fun i => ps.length - i) 0 (by omega) ?_ ?_
    ·refine Sub.of (hfz hF2) (by simp only [go_sem, subT, and_self, List.length_map, Int.natCast_zero]) ?_ (by simp [subK, keys]) (by simp only []; split <;> omega)
     simp [subH, Tx.look]
    ·intro i hi
     by_cases hlt : i < ps.length
     ·have hiN : (i = ps.length) = False := by apply eq_false; omega
      have f1 : decide ((i : Int) < (ps.length : Int)) = true := dT (by omega)
      have r0 := rowD hlt
      have hd := hP.all _ (List.getElem_mem hlt)
      have ht := getT_take hP.nodup hlt
      have k0 := mGet_mapF tB (ps.take i) (ps[i]).tsn
      have k1 := mPutK_newF tB (ps.take i) _ ht
      have k2 := mPutV_newF tB (ps.take i) (ps[i]).tsn (.bool true) ht
      rw [ht] at k0
      have e1 : (ps.take (i + 1)).map tK = (ps.take i).map tK ++ [.int .i64 (ps[i]).tsn] := by rw [List.take_succ_eq_append_getElem hlt, List.map_append]; rfl
      have e2 : (ps.take (i + 1)).map tB = (ps.take i).map tB ++ [.bool true] := by rw [List.take_succ_eq_append_getElem hlt, List.map_append]; rfl
      rw [← e1] at k1
      rw [← e2] at k2
      have hik : intKeys ((ps.take i).map tK) := by intro k hk; obtain ⟨y, _, rfl⟩ := List.mem_map.1 hk; exact ⟨_, rfl⟩
      obtain ⟨d, hdd⟩ : ∃ d, d = ps[i] := ⟨_, rfl⟩
      rw [← hdd] at hd r0 k0 k1 k2
      simp only [partOk, Bool.and_eq_true, decide_eq_true_eq, Bool.or_eq_true] at hd
      obtain ⟨⟨hok, hst⟩, hle⟩ := hd
      obtain ⟨w1, w2, w3, w4, w5, w6, w7, w8⟩ := Dat.ok_bounds hok
      have f2 : decide ((inn.length : Int) ≤ d.st) = false := dF (by omega)
      have r1 := getD_eI inn (i := d.st.toNat) (by omega)
      obtain ⟨v1, v2⟩ := serB16_at hi3 (k := d.st.toNat) (by omega)
      simp only [f1, r0, Dat.row, nB, Nat.add_assoc, hiN, List.length_map, go_sem]
      repeat refine sd1 ?_
      rw [show ([.int .i64 d.tsn, .int .i64 d.st, .int .i64 d.sq, .int .i64 d.pr, .bool d.fi, .bool d.la, .bool d.lo, .str d.pl] : List PV) = d.row from rfl]
      refine CallVC.same (piece_ok d) ?_
      cases hlo : d.lo with
      | true =>
       simp only [hok, f2, k0, k1, k2, hlo, Option.map_none, Option.getD_none, Dat.row, nB, Nat.add_assoc, List.length_map, Nat.add_zero, go_sem]
       repeat refine sd1 ?_
       refine ⟨i + 1, by omega, by omega, ?_⟩
       refine Sub.of (hfz hF2) (by simp only [go_sem, subT, and_self, Int.natCast_succ]) ?_ (by simp [subK, keys]) (by simp only []; split <;> omega)
       simp [subH, Tx.look]
      | false =>
       have f3 : decide (lead d.sq (inn.getD d.st.toNat 0) 16 < 0) = false := dF (by have := hle.resolve_left (by rw [hlo]; simp); omega)
       simp only [hok, f2, r1, eI, k0, hlo, Option.map_none, Option.getD_none, Dat.row, nB, Nat.add_assoc, List.length_map, Nat.add_zero, go_sem]
       repeat refine sd1 ?_
       refine CallVC.same (lead16_ok d.sq (inn.getD d.st.toNat 0) w5 w6 v1 v2) ?_
       simp only [f3, k1, k2, Option.map_none, nB, Nat.add_assoc, Nat.add_zero, go_sem]
       repeat refine sd1 ?_
       refine ⟨i + 1, by omega, by omega, ?_⟩
       refine Sub.of (hfz hF2) (by simp only [go_sem, subT, and_self, Int.natCast_succ]) ?_ (by simp [subK, keys]) (by simp only []; split <;> omega)
       simp [subH, Tx.look]
     ·have f1 : decide ((i : Int) < (ps.length : Int)) = false := dF (by omega)
      have e : i = ps.length := by omega
      subst e
      simp only [f1, go_sem]
      have e3 : ps.take ps.length = ps := List.take_of_length_le (by omega)
      simp only [e3, go_sem]
      refine CallVC.same (due_ok ⟨L + 1, 1000096⟩ (Nat.le_refl _) true true (.fs 1 (out.map eI)) (.int .i64 num) (.int .i64 seen) (.fs 1 (asked.map eI)) (.fs 1 (inn.map eI)) inn [] (.inl ⟨rfl, rfl⟩) (by simp) ps hP.len (fun x hx => (partOk_ok (hP.all x hx)).1) (fun x hx => (partOk_ok (hP.all x hx)).2.1) hP.nodup (by omega) (by simp only [nm_eq, go_sem])) ?_
      rw [hD]
      have g5 : decide ((0 : Int) < ((0 : Nat) : Int)) = false := rfl
      have g6 : decide ((0 : Int) < 0) = false := rfl
      simp only [resC, Msg.zero, Msg.row, g5, go_sem]
      exact .int (.inr rfl) rfl rfl (by simp [UpdAll])
def stU (L nx : Nat) (out inn asked : List Int) (num seen : Int) (ps : List Dat) : List (Nm × SBlk) :=
  [(⟨L, nx⟩, .rows 106 6 true false [[.sl ⟨L, nx + 1⟩ 0 out.length, .sl ⟨L, nx + 2⟩ 0 inn.length, .sl ⟨L, nx + 3⟩ 0 ps.length, .int .i64 num, .int .i64 seen, .sl ⟨L, nx + 4⟩ 0 asked.length]]),
   (⟨L, nx + 1⟩, .rows 3 1 true true (out.map eI)), (⟨L, nx + 2⟩, .rows 3 1 true true (inn.map eI)), (⟨L, nx + 3⟩, .rows 43 8 true true (ps.map Dat.row)), (⟨L, nx + 4⟩, .rows 3 1 true true (asked.map eI))]
theorem begin_ok {F : SF} {L nx : Nat} (out inn asked : List Int) (num seen : Int) (hS : Str0 out inn num seen asked) (ps : List Dat) (hP : PsOk inn ps) (hD : dueG inn ps = none) :
  Con Try.prog 41 [strV out inn num seen asked ps] F L nx (nx + 5) (.tup [.ptr ⟨L, nx⟩ 0 0, .int .i64 0]) (stU L nx out inn asked num seen ps) [] := by
 have hp80 := hP.len
 have ho2 := hS.o2
 have hi2 := hS.i2
 have ha2 := hS.a2
 unfold stU
 refine bdyN Try.f41 ?_
 intro F3 hF1 hF2
 have hch : ∀ F L nx, Con Try.prog 31 [strV out inn num seen asked ps] F L nx nx (.int .i64 0) [] [] := fun F L nx => check_ok out inn asked num seen hS ps hP hD
 simp only [strV] at hch
 simp only [Try.f41, cx, strV, go_sem, meths]
 refine CallVC.same (hch _ _ _) ?_
 have g : ((0 : Int) != 0) = false := rfl
 simp only [g, Nat.add_zero, go_sem]
 refine ⟨by kernel_rfl, CallVC.same (cloneI_ok out (by omega)) ?_⟩
 simp only [go_sem]
 refine CallVC.same (cloneI_ok inn (by omega)) ?_
 simp only [go_sem]
 refine CallVC.same (cloneD_ok (ps.map Dat.row) (by simp; omega)) ?_
 simp only [List.length_map, go_sem]
 refine CallVC.same (cloneI_ok asked (by omega)) ?_
 simp only [Nat.add_zero, go_sem]
 refine ⟨okDyn_num (·.i) (by kernel_rfl), .now (.val [288, 544, 609, 674, 739] (.inr rfl) (by simp) rfl ⟨trivial, trivial, trivial⟩ (by simp [one, nmA, nmAL, Dn]) (by simp [one, Tx.rn, Tx.rnL, sg]) ⟨Nat.le_refl _, ?_, Nat.le_refl _, ?_, Nat.le_refl _, ?_, Nat.le_refl _, ?_, Nat.le_refl _, ?_, trivial⟩ ⟨.inl rfl, .inl rfl, .inl rfl, .inl rfl, .inl rfl, .inl rfl, trivial⟩)⟩
 ·rw [kp_at0 (by simp)]
  refine .ren (by simp [Tx.look]; rfl) ?_ ?_
  ·simp [rowsNm, nmA, nmAL, Dn]
  ·simp [Tx.rn, Tx.rnL, sg, List.idxOf, List.findIdx, List.findIdx.go]
 all_goals
  rw [kp_at (by simp)]
  exact .pure (by simp [Tx.look])
theorem rowD' {ps : List Dat} {i : Nat} (h : i < ps.length) : (ps.map Dat.row).getD i [] = (ps[i]).row := by simp [h, List.getD_eq_getElem?_getD]
theorem without_ok {F : SF} {L nx : Nat} (ps : List Dat) (g : FuncId) (fl cl : List PV) (p : Dat → Bool) (rd : List Nm) (hrd : ∀ n ∈ rd, n.l ≤ L) (hlen : ps.length ≤ 1000) (hcl : ∀ x ∈ ps, ∀ L' nx', L ≤ L' → Con Try.prog g (fl ++ [.agg x.row] ++ cl) F L' nx' nx' (.bool (p x)) [] rd) :
  Con Try.prog 49 [.fs 8 (ps.map Dat.row), .fn (.func g) fl cl] F L nx nx (.fs 8 ((withoutG ps p).map Dat.row)) [] rd := by
 refine bdy Try.f49 (hrd := hrd) ?_
 intro F3 hF1 hF2
 simp only [Try.f49, cx, go_sem, meths]
 refine loopK.intro _ _ (I := fun z : Nat × Nat => ⟨[some (.fs 8 (ps.map Dat.row)), some (.fn (.func g) fl cl), none, none, none, some (.sl ⟨L + 1, z.2⟩ 0 (withoutG (ps.take z.1) p).length), none, none, some (.fs 8 (ps.map Dat.row)), some (.int .i64 ps.length), some (.int .i64 z.1), none, none, none, none, none, none, none, none, none, none, none, none, none],
  [(⟨L + 1, z.2⟩, .rows 43 8 true true ((withoutG (ps.take z.1) p).map Dat.row))], 10000 * (z.1 + 1)⟩) (pre := fun z => z.1 ≤ ps.length ∧ 160 ≤ z.2 ∧ z.2 < 10000 * (z.1 + 1)) (μ := fun z => ps.length - z.1) (0, 160) ⟨by simp, by simp, by simp⟩ ?_ ?_
 ·refine Sub.trans (Sub.nilName 5 43 (wd := 8) (by omega) rfl) ?_
  refine Sub.of (hfz hF2) (by simp only [withoutG, List.filter_nil, go_sem, subT, and_self, List.length_map, Int.natCast_zero]) ?_ (by simp only [go_sem, subK, and_self, true_or, or_true, List.not_mem_nil, List.mem_cons]) (by simp)
  simp [subH, Tx.look, updH, setH, withoutG]
 ·rintro ⟨i, q⟩ ⟨hi, hq1, hq2⟩
  simp only at hi hq1 hq2 ⊢
  have hwl : (withoutG (ps.take i) p).length ≤ i := by
   refine Nat.le_trans (List.length_filter_le _ _) ?_
   rw [List.length_take]; omega
  by_cases hlt : i < ps.length
  ·have f1 : decide ((i : Int) < (ps.length : Int)) = true := dT (by omega)
   have r0 := rowD' hlt
   obtain ⟨d, hd⟩ : ∃ d, d = ps[i] := ⟨_, rfl⟩
   rw [← hd] at r0
   have hdm : d ∈ ps := by rw [hd]; exact List.getElem_mem hlt
   have q_0 : (q = 0) = False := by apply eq_false; omega
   have n0_q : (0 = q) = False := by apply eq_false; omega
   have q_n1 : ∀ kk, (10000 * (i + 1) + kk = q) = False := fun kk => by apply eq_false; omega
   have q_n2 : ∀ kk, (q = 10000 * (i + 1) + kk) = False := fun kk => by apply eq_false; omega
   have q_n3 : (10000 * (i + 1) = q) = False := by apply eq_false; omega
   have q_n4 : (q = 10000 * (i + 1)) = False := by apply eq_false; omega
   have q_n5 : ∀ kk, ((⟨L + 1, q⟩ : Nm) == ⟨L + 1, 10000 * (i + 1) + kk⟩) = false := fun kk => by simp; omega
   have hw1 : withoutG (ps.take (i + 1)) p = withoutG (ps.take i) p ++ (if p d then [] else [d]) := by
    unfold withoutG
    rw [List.take_succ_eq_append_getElem hlt, List.filter_append, ← hd]
    cases h : p d <;> simp [h]
   simp only [f1, r0, Dat.row, Nat.add_assoc, q_n1, List.length_map, go_sem]
   repeat refine sd1 ?_
   rw [show ([.int .i64 d.tsn, .int .i64 d.st, .int .i64 d.sq, .int .i64 d.pr, .bool d.fi, .bool d.la, .bool d.lo, .str d.pl] : List PV) = d.row from rfl]
   refine CallVC.same ((hcl d hdm (L + 1) _ (by omega)).agree (fun n hn => ?_)) ?_
   ·have hnl := hrd n hn
    have o2 := nm_out hnl
    simp only [o2, if_false]
    exact hF1 n hn
   cases hp : p d with
   | true =>
    rw [hp] at hw1
    simp only [if_true, List.append_nil] at hw1
    simp only [Dat.row, Nat.add_assoc, go_sem]
    repeat refine sd1 ?_
    refine ⟨(i + 1, q), ⟨by simp only []; omega, by simp only []; omega, by simp only []; omega⟩, by simp only []; omega, ?_⟩
    refine Sub.of (hfz hF2) (by simp only [hw1, go_sem, subT, and_self, Int.natCast_succ]) ?_ (by simp [subK, keys]) (by simp only []; omega)
    simp [subH, Tx.look, hw1]
   | false =>
    rw [hp] at hw1
    simp only [if_false, Bool.false_eq_true] at hw1
    simp only [Dat.row, nS2, Nat.add_assoc, q_n1, q_n2, q_n5, List.length_map, go_sem]
    repeat refine sd1 ?_
    refine ⟨(i + 1, 10000 * (i + 1) + 352), ⟨by simp only []; omega, by simp only []; omega, by simp only []; omega⟩, by simp only []; omega, ?_⟩
    refine Sub.of (hfz hF2) (by simp only [hw1, List.length_append, go_sem, subT, and_self, Int.natCast_succ]) ?_ (by simp [subK, keys]) (by simp only []; omega)
    simp [subH, Tx.look, hw1, Dat.row, q_n1]
  ·have f1 : decide ((i : Int) < (ps.length : Int)) = false := dF (by omega)
   have e : i = ps.length := by omega
   subst e
   have e3 : ps.take ps.length = ps := List.take_of_length_le (by omega)
   simp only [f1, e3, Nat.add_assoc, go_sem]
   exact PostF.rs (v0 := .sl ⟨L + 1, q⟩ 0 (withoutG ps p).length) (.inr rfl)
theorem indexFuncD_ok {F : SF} {L nx : Nat} (ps : List Dat) (g : FuncId) (fl cl : List PV) (p : Dat → Bool) (rd : List Nm) (hrd : ∀ n ∈ rd, n.l ≤ L) (hlen : ps.length ≤ 1000) (hcl : ∀ x ∈ ps, ∀ L' nx', L ≤ L' → Con Try.prog g (fl ++ [.agg x.row] ++ cl) F L' nx' nx' (.bool (p x)) [] rd) :
  Con Try.prog 88 [.fs 8 (ps.map Dat.row), .fn (.func g) fl cl] F L nx nx (.int .i64 (idxI p ps)) [] rd := by
 refine bdy Try.f88 (hrd := hrd) ?_
 intro F3 hF1 hF2
 simp only [Try.f88, cx, go_sem, meths]
 refine loopK.intro _ _ (I := fun i : Nat => ⟨[some (.fs 8 (ps.map Dat.row)), some (.fn (.func g) fl cl), none, none, none, none, none, some (.int .i64 ps.length), some (.int .i64 i), none, none, none, none, none, none, none, none, none, none], [], 10000 * (i + 1)⟩) (pre := fun i => i ≤ ps.length ∧ ∀ (j : Nat) (hj : j < ps.length), j < i → p ps[j] = false) (μ := fun i => ps.length - i) 0 ⟨by omega, by intro j _ h; omega⟩ ?_ ?_
 ·exact Sub.of (hfz hF2) (by simp only [go_sem, subT, and_self, List.length_map, Int.natCast_zero]) trivial trivial (by simp)
 ·rintro i ⟨hi, hp⟩
  by_cases hlt : i < ps.length
  ·have f1 : decide ((i : Int) < (ps.length : Int)) = true := dT (by omega)
   have r0 := rowD' hlt
   simp only [f1, r0, Dat.row, List.length_map, Nat.add_assoc, go_sem]
   repeat refine sd1 ?_
   refine CallVC.same ((hcl ps[i] (List.getElem_mem hlt) _ _ (by omega)).agree hF1) ?_
   cases hpi : p ps[i]
   ·simp only [go_sem]
    refine ⟨⟨by omega, by omega⟩, i + 1, ⟨by omega, fun j hj hji => ?_⟩, by omega, Sub.of (hfz hF2) (by simp only [go_sem, subT, and_self, Int.natCast_succ]) trivial trivial (by simp only []; omega)⟩
    by_cases he : j = i
    ·subst he; exact hpi
    ·exact hp j hj (by omega)
   ·simp only [go_sem]
    exact .int (.inr rfl) rfl (idxI_stop hlt hp hpi).symm trivial
  ·have f1 : decide ((i : Int) < (ps.length : Int)) = false := dF (by omega)
   simp only [f1, go_sem]
   exact .int (.inr rfl) rfl (idxI_end (fun j hj => hp j hj (by omega))).symm trivial
theorem containsFuncD_ok {F : SF} {L nx : Nat} (ps : List Dat) (g : FuncId) (fl cl : List PV) (p : Dat → Bool) (rd : List Nm) (hrd : ∀ n ∈ rd, n.l ≤ L) (hlen : ps.length ≤ 1000) (hcl : ∀ x ∈ ps, ∀ L' nx', L ≤ L' → Con Try.prog g (fl ++ [.agg x.row] ++ cl) F L' nx' nx' (.bool (p x)) [] rd) :
  Con Try.prog 79 [.fs 8 (ps.map Dat.row), .fn (.func g) fl cl] F L nx nx (.bool (ps.any p)) [] rd := by
 refine bdy Try.f79 (hrd := hrd) ?_
 intro F3 hF1 hF2
 simp only [Try.f79, cx, go_sem, meths]
 refine CallVC.same ((indexFuncD_ok ps g fl cl p rd (fun n hn => by have := hrd n hn; omega) hlen (fun x hx L' nx' hL => hcl x hx L' nx' (by omega))).agree hF1) ?_
 simp only [go_sem]
 exact .bool (.inr rfl) rfl (idxI_any p ps) trivial
theorem next1_ok {F : SF} {L nx : Nat} (d : Dat) (hd : d.ok = true) (a b : Nm) (ha : a.l ≤ L) (hb : b.l ≤ L) (n m : Nm) (hn : n.l ≤ L) (hm : m.l ≤ L) (ea eb : TypeId) (oa ob pa pb : Bool) (o p om : Bool) (out parts num seen asked : PV) (st : Int) (inn : List Int) (hi3 : inn.all (serB 16) = true) (hst0 : 0 ≤ st) (hst : st < inn.length)
  (hFa : F a = some (.rows ea 1 oa pa [[.int .i64 st]])) (hFb : F b = some (.rows eb 1 ob pb [[.ptr n 0 0]])) (hF : F n = some (.rows 106 6 o p [[out, .sl m 0 inn.length, parts, num, seen, asked]])) (hFm : F m = some (.rows 3 1 om true (inn.map eI))) :
  Con Try.prog 87 [.agg d.row, .ptr a 0 0, .ptr b 0 0] F L nx nx (.bool (oldB inn st d)) [] [a, b, n, m] := by
 refine bdy Try.f87 (hrd := (by simp; omega)) ?_
 intro F3 hF1 hF2
 have hFa := (hF1 a (by simp)).trans hFa
 have hFb := (hF1 b (by simp)).trans hFb
 have hF := (hF1 n (by simp)).trans hF
 have hFm := (hF1 m (by simp)).trans hFm
 have q1 := nm_out' ha
 have q2 := nm_out ha
 have q3 := nm_out' hb
 have q4 := nm_out hb
 have q5 := nm_out' hn
 have q6 := nm_out hn
 have q7 := nm_out' hm
 have q8 := nm_out hm
 obtain ⟨w1, w2, w3, w4, w5, w6, w7, w8⟩ := Dat.ok_bounds hd
 have r1 := getD_eI inn (i := st.toNat) (by omega)
 obtain ⟨v1, v2⟩ := serB16_at hi3 (k := st.toNat) (by omega)
 unfold oldB
 have fin : ∀ b : Bool, b = b := fun _ => rfl
 cases h1 : d.st == st with
 | false =>
  simp only [Try.f87, cx, Dat.row, hFa, q2, h1, go_sem, meths]
  repeat refine sd1 ?_
  exact .bool (.inr rfl) rfl rfl (by simp [UpdAll])
 | true =>
  cases h2 : d.lo with
  | true =>
   simp only [Try.f87, cx, Dat.row, hFa, q2, h1, h2, go_sem, meths]
   repeat refine sd1 ?_
   exact .bool (.inr rfl) rfl rfl (by simp [UpdAll])
  | false =>
   simp only [Try.f87, cx, Dat.row, hFa, hFb, hF, hFm, q2, q4, q6, q8, h1, h2, r1, eI, List.length_map, Nat.add_zero, go_sem, meths]
   repeat refine sd1 ?_
   refine CallVC.same (lead16_ok d.sq (inn.getD st.toNat 0) w5 w6 v1 v2) ?_
   simp only [go_sem]
   repeat refine sd1 ?_
   exact .bool (.inr rfl) rfl rfl (by simp [UpdAll])
theorem next_ok {F : SF} {L nx : Nat} (n m : Nm) (hn : n.l < L ∨ (n.l = L ∧ n.i < nx)) (hm : m.l < L ∨ (m.l = L ∧ m.i < nx)) (hnm : n ≠ m) (mo ma : Nm) (ol al : Nat) (num seen : Int) (hmo : mo.l ≤ L) (hma : ma.l ≤ L) (st sq : Int) (inn : List Int) (hi3 : inn.all (serB 16) = true) (hst0 : 0 ≤ st) (hst : st < inn.length) (hsq : 0 ≤ sq) (hsq2 : sq < 65536) (ps : List Dat) (hlen : ps.length ≤ 1000) (hall : ∀ x ∈ ps, x.ok = true)
  (hF : F n = some (.rows 106 6 true false [[.sl mo 0 ol, .sl m 0 inn.length, .fs 8 (ps.map Dat.row), .int .i64 num, .int .i64 seen, .sl ma 0 al]])) (hFm : F m = some (.rows 3 1 true true (inn.map eI))) :
  Con Try.prog 58 [.ptr n 0 0, .int .i64 st, .int .i64 sq] F L nx nx (.tup []) [(n, .rows 106 6 true false [[.sl mo 0 ol, .sl m 0 inn.length, .fs 8 ((nextP inn ps st sq).map Dat.row), .int .i64 num, .int .i64 seen, .sl ma 0 al]]), (m, .rows 3 1 true true ((nextI inn st sq).map eI))] [n, m] := by
 show Con Try.prog 58 _ F L nx (nx + 0) _ _ _
 refine bdyN Try.f58 (hrd := (by simp; omega)) ?_
 intro F3 hF1 hF2
 have hF := (hF1 n (by simp)).trans hF
 have hFm := (hF1 m (by simp)).trans hFm
 have hnl : n.l ≤ L := by omega
 have hml : m.l ≤ L := by omega
 have q5 := nm_out' hnl
 have q6 := nm_out hnl
 have q7 := nm_out' hml
 have q8 := nm_out hml
 have q9 : (n = m) = False := by simp [hnm]
 have q0 : (m = n) = False := by simp [Ne.symm hnm]
 have r1 := getD_eI inn (i := st.toNat) (by omega)
 have h16 : (2 : Int) ^ (Int.toNat 16) = 65536 := rfl
 have hbe : ∀ F L nx, Con Try.prog 44 [.int .i64 sq, .int .i64 16] F L nx nx (.int .i64 ((sq + 1) % 65536)) [] [] := by
  intro F L nx
  have h := behind_ok (F := F) (L := L) (nx := nx) sq 16 (by omega) (by omega) (by omega) (by omega)
  rwa [h16] at h
 simp only [Try.f58, cx, hF, q6, Nat.add_zero, go_sem, meths]
 repeat refine sd1 ?_
 refine CallVC.same (hbe _ _ _) ?_
 simp only [hF, hFm, q6, q7, q8, q9, r1, eI, set_eI, List.length_map, Nat.add_zero, go_sem]
 repeat refine sd1 ?_
 have hi3' : (nextI inn st sq).all (serB 16) = true := by
  rw [List.all_eq_true] at hi3 ⊢
  intro x hx
  rcases List.mem_or_eq_of_mem_set hx with hx | rfl
  ·exact hi3 x hx
  ·simp only [serB, h16, Bool.and_eq_true, decide_eq_true_eq]; omega
 have hnl2 : (nextI inn st sq).length = inn.length := by simp [nextI]
 have e9 : inn.set st.toNat ((sq + 1) % 65536) = nextI inn st sq := rfl
 rw [e9]
 refine CallVC.same (without_ok ps 87 [] [.ptr ⟨L + 1, 32⟩ 0 0, .ptr ⟨L + 1, 0⟩ 0 0] (oldB (nextI inn st sq) st) [⟨L + 1, 32⟩, ⟨L + 1, 0⟩, n, m] (by simp; omega) hlen (fun x hx L' nx' hL => next1_ok x (hall x hx) ⟨L + 1, 32⟩ ⟨L + 1, 0⟩ hL hL n m (by omega) (by omega) 3 100 true true true false true false true (.sl mo 0 ol) (.fs 8 (ps.map Dat.row)) (.int .i64 num) (.int .i64 seen) (.sl ma 0 al) st (nextI inn st sq) hi3' hst0 (by omega) (by simp) (by simp) (by simp [q6, q9, hF, hnl2]) (by simp [q8]))) ?_
 simp only [hF, q6, q9, Nat.add_zero, go_sem]
 refine ⟨okDyn_num (fun x => if x = n then 1 else if x = m then 2 else x.i + 100) (by simp only [numF, List.map, q5, q7, q9, q0, if_true, if_false]; kernel_rfl), ?_⟩
 refine .now (PostN.val [] (.inl rfl) (by simp) (p := True) (v0 := .tup []) ?_ trivial ?_ ?_ ⟨by omega, ?_, by omega, ?_, trivial⟩ ?_)
 ·simp only [resVal, resVals, one, go_sem]
 ·simp [nmA, nmAL]
 ·simp [Tx.rn, Tx.rnL]
 ·rw [kp_nil]
  exact .ren (by simp [Tx.look, q6, q9]; rfl) (by simp [rowsNm, nmA, nmAL, Dn]; omega) (by simp [Tx.rn, Tx.rnL, sg_out hml, sg_out hmo, sg_out hma, nextP])
 ·rw [kp_nil]
  exact .pure (by simp [Tx.look, q8])
 ·simp [UpdAll, keys]
theorem compG_mem (ps : List Dat) (f : Dat) : ∀ (k : Nat) (d : Dat) (tx : List UInt8) (ns : List Int) (r : List UInt8 × List Int), compG ps f k d tx ns = some r → (∀ x ∈ ns, x ∈ r.2) ∧ d.tsn ∈ r.2
 | 0, _, _, _, _, h => by simp [compG] at h
 | k + 1, d, tx, ns, r, h => by
  rw [compG] at h
  split at h
  ·cases h
  ·split at h
   ·injection h with h; subst h; exact ⟨fun x hx => by simp [hx], by simp⟩
   ·split at h
    ·cases h
    ·have := (compG_mem ps f k _ _ _ r h).1
     exact ⟨fun x hx => this x (by simp [hx]), this _ (by simp)⟩
theorem compG_len (ps : List Dat) (f : Dat) : ∀ (k : Nat) (d : Dat) (tx : List UInt8) (ns : List Int) (r : List UInt8 × List Int), compG ps f k d tx ns = some r → r.2.length ≤ k + ns.length
 | 0, _, _, _, _, h => by simp [compG] at h
 | k + 1, d, tx, ns, r, h => by
  rw [compG] at h
  split at h
  ·cases h
  ·split at h
   ·injection h with h; subst h; simp; omega
   ·split at h
    ·cases h
    ·have := compG_len ps f k _ _ _ r h
     simp at this; omega
theorem complete_len {ps : List Dat} {f : Dat} {m : Msg} {ns : List Int} (h : complete ps f = some (m, ns)) : ns.length ≤ ps.length + 1 := by
 unfold complete at h
 split at h
 ·cases hc : compG ps f (ps.length + 1) f [] [] with
  | none => rw [hc] at h; cases h
  | some r =>
   rw [hc] at h
   simp only [Option.map_some, Option.some.injEq, Prod.mk.injEq] at h
   rw [← h.2]; simpa using compG_len _ _ _ _ _ _ _ hc
 ·cases h
theorem complete_spec {ps : List Dat} {f : Dat} {m : Msg} {ns : List Int} (h : complete ps f = some (m, ns)) : m.st = f.st ∧ m.pr = f.pr ∧ m.lo = f.lo ∧ f.tsn ∈ ns := by
 unfold complete at h
 split at h
 ·cases hc : compG ps f (ps.length + 1) f [] [] with
  | none => rw [hc] at h; cases h
  | some r =>
   rw [hc] at h
   simp only [Option.map_some, Option.some.injEq, Prod.mk.injEq] at h
   obtain ⟨rfl, rfl⟩ := h
   exact ⟨rfl, rfl, rfl, (compG_mem _ _ _ _ _ _ _ hc).2⟩
 ·cases h
theorem due_spec {inn : List Int} {ps : List Dat} {m : Msg} {ns : List Int} (h : dueG inn ps = some (m, ns)) : ∃ d ∈ ps, complete ps d = some (m, ns) ∧ (d.lo = true ∨ d.sq = inn.getD d.st.toNat 0) := by
 unfold dueG at h
 obtain ⟨d, hd, h1⟩ := List.exists_of_findSome?_eq_some h
 refine ⟨d, hd, ?_⟩
 split at h1
 ·cases h1
 ·rename_i hc
  refine ⟨h1, ?_⟩
  simp only [Bool.and_eq_true, not_and, Bool.not_eq_true', bne_iff_ne, ne_eq] at hc
  cases hl : d.lo with
  | true => exact .inl rfl
  | false => exact .inr (by simpa using hc hl)
theorem without_len {ps : List Dat} {d : Dat} {h : Dat → Bool} (hd : d ∈ ps) (hh : h d = true) : (withoutG ps h).length < ps.length := by
 unfold withoutG
 rw [List.length_filter_lt_length_iff_exists]
 exact ⟨d, hd, by simp [hh]⟩
theorem delG_none {inn : List Int} {ps : List Dat} {out : List Msg} (h : dueG inn ps = none) (k : Nat) : delG k inn ps out = (inn, ps, out) := by
 cases k with
 | zero => rfl
 | succ k => rw [delG, h]
structure DelP (inn : List Int) (ps : List Dat) : Prop where
 len : ps.length ≤ 80
 ok : ∀ d ∈ ps, d.ok = true
 st : ∀ d ∈ ps, d.st < inn.length
 nodup : (ps.map Dat.tsn).Nodup
 i3 : inn.all (serB 16) = true
 i2 : inn.length ≤ 16
theorem DelP.without {inn : List Int} {ps : List Dat} (h : DelP inn ps) (p : Dat → Bool) : DelP inn (withoutG ps p) where
 len := Nat.le_trans (List.length_filter_le _ _) h.len
 ok := fun d hd => h.ok d (List.mem_filter.1 hd).1
 st := fun d hd => h.st d (List.mem_filter.1 hd).1
 nodup := List.Nodup.sublist (List.Sublist.map _ List.filter_sublist) h.nodup
 i3 := h.i3
 i2 := h.i2
theorem nextI_ser {inn : List Int} (h : inn.all (serB 16) = true) (st sq : Int) : (nextI inn st sq).all (serB 16) = true := by
 have h16 : (2 : Int) ^ (Int.toNat 16) = 65536 := rfl
 rw [List.all_eq_true] at h ⊢
 intro x hx
 rcases List.mem_or_eq_of_mem_set hx with hx | rfl
 ·exact h x hx
 ·simp only [serB, h16, Bool.and_eq_true, decide_eq_true_eq]; omega
theorem DelP.next {inn : List Int} {ps : List Dat} (h : DelP inn ps) (st sq : Int) : DelP (nextI inn st sq) (nextP inn ps st sq) where
 len := (h.without _).len
 ok := (h.without _).ok
 st := fun d hd => by simpa [nextI] using (h.without _).st d hd
 nodup := (h.without _).nodup
 i3 := nextI_ser h.i3 st sq
 i2 := by simpa [nextI] using h.i2
theorem deliver1_ok {F : SF} {L nx : Nat} (d : Dat) (a : Nm) (ha : a.l ≤ L) (ea : TypeId) (o p : Bool) (ns : List Int) (hns : ns.length ≤ 1000) (hF : F a = some (.rows ea 1 o p [[.fs 1 (ns.map eI)]])) :
  Con Try.prog 90 [.agg d.row, .ptr a 0 0] F L nx nx (.bool (ns.contains d.tsn)) [] [a] := by
 refine bdy Try.f90 (hrd := (by simpa using ha)) ?_
 intro F3 hF1 hF2
 have hF := (hF1 a (by simp)).trans hF
 have q1 := nm_out' ha
 have q2 := nm_out ha
 simp only [Try.f90, cx, Dat.row, hF, q2, Nat.add_zero, go_sem, meths]
 refine CallVC.same (contains_ok ns d.tsn (by omega)) ?_
 simp only [go_sem]
 exact .bool (.inr rfl) rfl List.contains_eq_any_beq.symm (by simp [UpdAll])
structure DelX where
 i : Nat
 q : Nat
 a : Nat
 b : Nat
 inn : List Int
 ps : List Dat
 out : List Msg
 m : Msg
 ns : List Int
def delI (ps : List Dat) (inn : List Int) (z : DelX) : Prop :=
 DelP z.inn z.ps ∧ z.inn.length = inn.length ∧ z.ps.length + z.i ≤ ps.length ∧ delG (ps.length - z.i) z.inn z.ps z.out = delG ps.length inn ps [] ∧ z.out.length = z.i ∧
 192 ≤ z.a ∧ 192 ≤ z.b ∧ 192 ≤ z.q ∧ z.a ≠ z.b ∧ z.a ≠ z.q ∧ z.b ≠ z.q ∧ z.a < 10000 * (z.i + 1) ∧ z.b < 10000 * (z.i + 1) ∧ z.q < 10000 * (z.i + 1) ∧ ((dueG z.inn z.ps = none ∧ z.ns = []) ∨ dueG z.inn z.ps = some (z.m, z.ns))
theorem nextI_len (inn : List Int) (st sq : Int) : (nextI inn st sq).length = inn.length := by simp [nextI]
theorem resC_due (inn : List Int) (ps : List Dat) : ∃ (m1 : Msg) (n1 : List Int), resC (dueG inn ps) = .tup [.agg m1.row, .fs 1 (n1.map eI)] ∧ ((dueG inn ps = none ∧ n1 = []) ∨ dueG inn ps = some (m1, n1)) := by
 cases h : dueG inn ps with
 | none => exact ⟨Msg.zero, [], rfl, .inl ⟨rfl, rfl⟩⟩
 | some r => exact ⟨r.1, r.2, rfl, .inr rfl⟩
theorem deliver_ok {F : SF} {L nx : Nat} (n m : Nm) (hn : n.l < L ∨ (n.l = L ∧ n.i < nx)) (hm : m.l < L ∨ (m.l = L ∧ m.i < nx)) (hnm : n ≠ m) (mo ma : Nm) (ol al : Nat) (num seen : Int) (hmo : mo.l ≤ L) (hma : ma.l ≤ L) (inn : List Int) (ps : List Dat) (hP : DelP inn ps)
    (hF : F n = some (.rows 106 6 true false [[.sl mo 0 ol, .sl m 0 inn.length, .fs 8 (ps.map Dat.row), .int .i64 num, .int .i64 seen, .sl ma 0 al]])) (hFm : F m = some (.rows 3 1 true true (inn.map eI))) :
    Con Try.prog 61 [.ptr n 0 0] F L nx nx (.fs 4 ((delG ps.length inn ps []).2.2.map Msg.row)) [(n, .rows 106 6 true false [[.sl mo 0 ol, .sl m 0 inn.length, .fs 8 ((delG ps.length inn ps []).2.1.map Dat.row), .int .i64 num, .int .i64 seen, .sl ma 0 al]]), (m, .rows 3 1 true true ((delG ps.length inn ps []).1.map eI))] [n, m] := by
  show Con Try.prog 61 _ F L nx (nx + 0) _ _ _
  refine bdyN Try.f61 (hrd := (by simp; omega)) ?_
  intro F3 hF1 hF2
  have hF := (hF1 n (by simp)).trans hF
  have hFm := (hF1 m (by simp)).trans hFm
  have hnl : n.l ≤ L := by omega
  have hml : m.l ≤ L := by omega
  have q5 := nm_out' hnl
  have q6 := nm_out hnl
  have q7 := nm_out' hml
  have q8 := nm_out hml
  have q9 : (n = m) = False := by simp [hnm]
  have q0 : (m = n) = False := by simp [Ne.symm hnm]
  simp only [Try.f61, cx, go_sem, meths]
  refine CallVC.same (due_ok n (by omega) true false (.sl mo 0 ol) (.int .i64 num) (.int .i64 seen) (.sl ma 0 al) (.sl m 0 inn.length) inn [m] (.inr ⟨m, true, rfl, rfl, hFm⟩) (by simp; omega) ps hP.len hP.ok hP.st hP.nodup (by have := hP.i2; omega) hF) ?_
  obtain ⟨m1, n1, hr, hmn⟩ := resC_due inn ps
  rw [hr]
  simp only [Msg.row, go_sem]
  refine loopK.intro _ _ (I := fun z : DelX => ⟨[some (.ptr n 0 0), none, none, some (.sl ⟨L + 1, z.q⟩ 0 z.out.length), some (.ptr ⟨L + 1, z.a⟩ 0 0), some (.ptr ⟨L + 1, z.b⟩ 0 0), none, none, none, none, none, none, none, none, none, none, none, none, none, none, none, none, none, none, none, none, none, none, none, none, none, none, none, none, none, none, none, none, none, none, none, none, none, none, none, none, none, none, none, none, none, none, none],
    [(n, .rows 106 6 true false [[.sl mo 0 ol, .sl m 0 inn.length, .fs 8 (z.ps.map Dat.row), .int .i64 num, .int .i64 seen, .sl ma 0 al]]), (m, .rows 3 1 true true (z.inn.map eI)),
     (⟨L + 1, z.a⟩, .rows 37 4 true true [[.int .i64 z.m.st, .int .i64 z.m.pr, .bool z.m.lo, .str z.m.tx]]), (⟨L + 1, z.b⟩, .rows 31 1 true true [[.fs 1 (z.ns.map eI)]]), (⟨L + 1, z.q⟩, .rows 37 4 true true (z.out.map Msg.row))], 10000 * (z.i + 1)⟩)
    (pre := delI ps inn) (μ := fun z => ps.length - z.i + (if z.ns = [] then 0 else 1)) ⟨0, 320, 192, 224, inn, ps, [], m1, n1⟩ ⟨hP, rfl, by simp, rfl, rfl, by simp, by simp, by simp, by simp, by simp, by simp, by simp, by simp, by simp, hmn⟩ ?_ ?_
  · refine Sub.trans (Sub.nilName 3 37 (wd := 4) (by omega) rfl) ?_
    refine Sub.of (hfz hF2) (by simp only [go_sem, subT, and_self]) ?_ (by simp [subK, keys, updH, setH]) (by simp)
    simp [subH, Tx.look, updH, setH, hF, hFm, q6, q8]
  · rintro ⟨i, q, a, b, inn1, ps1, out1, m2, n2⟩ ⟨h1, h2, h3, h4, h5, k1, k2, k3, k4, k5, k6, k7, k8, k9, h6⟩
    simp only at h1 h2 h3 h4 h5 k1 k2 k3 k4 k5 k6 k7 k8 k9 h6 ⊢
    have hi16 := h1.i2
    have hp0 := hP.len
    have hp80 := h1.len
    rw [← h2]
    have a_b : (a = b) = False := by apply eq_false; omega
    have nb_a : (b = a) = False := by apply eq_false; omega
    have a_q : (a = q) = False := by apply eq_false; omega
    have nq_a : (q = a) = False := by apply eq_false; omega
    have a_n1 : ∀ kk, (10000 * (i + 1) + kk = a) = False := fun kk => by apply eq_false; omega
    have a_n2 : ∀ kk, (a = 10000 * (i + 1) + kk) = False := fun kk => by apply eq_false; omega
    have a_n3 : (10000 * (i + 1) = a) = False := by apply eq_false; omega
    have a_n4 : (a = 10000 * (i + 1)) = False := by apply eq_false; omega
    have a_n5 : ∀ kk, ((⟨L + 1, a⟩ : Nm) == ⟨L + 1, 10000 * (i + 1) + kk⟩) = false := fun kk => by simp; omega
    have b_q : (b = q) = False := by apply eq_false; omega
    have nq_b : (q = b) = False := by apply eq_false; omega
    have b_n1 : ∀ kk, (10000 * (i + 1) + kk = b) = False := fun kk => by apply eq_false; omega
    have b_n2 : ∀ kk, (b = 10000 * (i + 1) + kk) = False := fun kk => by apply eq_false; omega
    have b_n3 : (10000 * (i + 1) = b) = False := by apply eq_false; omega
    have b_n4 : (b = 10000 * (i + 1)) = False := by apply eq_false; omega
    have b_n5 : ∀ kk, ((⟨L + 1, b⟩ : Nm) == ⟨L + 1, 10000 * (i + 1) + kk⟩) = false := fun kk => by simp; omega
    have q_0 : (q = 0) = False := by apply eq_false; omega
    have n0_q : (0 = q) = False := by apply eq_false; omega
    have q_n1 : ∀ kk, (10000 * (i + 1) + kk = q) = False := fun kk => by apply eq_false; omega
    have q_n2 : ∀ kk, (q = 10000 * (i + 1) + kk) = False := fun kk => by apply eq_false; omega
    have q_n3 : (10000 * (i + 1) = q) = False := by apply eq_false; omega
    have q_n4 : (q = 10000 * (i + 1)) = False := by apply eq_false; omega
    have q_n5 : ∀ kk, ((⟨L + 1, q⟩ : Nm) == ⟨L + 1, 10000 * (i + 1) + kk⟩) = false := fun kk => by simp; omega
    rcases h6 with ⟨hdn, rfl⟩ | hds
    · have f1 : decide ((0 : Int) < ((0 : Nat) : Int)) = false := rfl
      have e := delG_none (out := out1) hdn (ps.length - i)
      rw [e] at h4
      rw [← h4]
      simp only [f1, q5, q7, Nat.add_assoc, nb_a, b_q, Nat.add_zero, go_sem]
      refine .now (PostN.mk (.inr rfl) ⟨[], True, .sl ⟨L + 1, q⟩ 0 out1.length, .fs 4 (out1.map Msg.row), rfl, List.nodup_nil, by simp only [resVal, resVals, resVal1, one, go_sem], trivial, ?_, ?_, trivial, rfl, ⟨by omega, ?_, by omega, ?_, trivial⟩⟩ ?_)
      · simp [Wk, Tx.look, q5, q7, nq_a, nq_b, List.take_of_length_le]
      · simp [wkN]
      · rw [kp_nil]
        exact .ren (by simp [Tx.look]; rfl) (by simp [rowsNm, nmA, nmAL, Dn]; omega) (by simp [Tx.rn, Tx.rnL, sg_out hml, sg_out hmo, sg_out hma])
      · rw [kp_nil]
        exact .pure (by simp [Tx.look, q0])
      · simp [UpdAll, keys]
    · obtain ⟨d, hd, hc, hdq⟩ := due_spec hds
      obtain ⟨e1, e2, e3, e4⟩ := complete_spec hc
      have hnl3 := complete_ne hc
      have hnl4 := complete_len hc
      have f1 : decide ((0 : Int) < (n2.length : Int)) = true := dT (by omega)
      simp only [f1, hF, q5, q6, q7, q9, Nat.add_assoc, nb_a, b_q, List.length_map, Nat.add_zero, go_sem]
      have hwl : (withoutG ps1 fun d => n2.contains d.tsn).length < ps1.length := without_len hd (by simpa using e4)
      refine CallVC.same (without_ok ps1 90 [] [.ptr ⟨L + 1, b⟩ 0 0] (fun d => n2.contains d.tsn) [⟨L + 1, b⟩] (by simp) (by omega) (fun x hx L' nx' hL => deliver1_ok x ⟨L + 1, b⟩ hL 31 true true n2 (by omega) (by simp [q5, q7, nb_a]))) ?_
      obtain ⟨ps2, hps2⟩ : ∃ ps2, ps2 = withoutG ps1 fun d => n2.contains d.tsn := ⟨_, rfl⟩
      have hP2 : DelP inn1 ps2 := by rw [hps2]; exact h1.without _
      rw [← hps2] at hwl ⊢
      obtain ⟨k, hk⟩ : ∃ k, ps.length - i = k + 1 := ⟨ps.length - i - 1, by omega⟩
      rw [hk, delG, hds] at h4
      simp only [← hps2] at h4
      cases hlo : m2.lo with
      | true =>
        rw [hlo] at h4
        simp only [if_true] at h4
        simp only [hF, q5, q6, q7, q9, nS2, Nat.add_assoc, a_b, nb_a, a_q, nq_a, a_n1, a_n2, b_q, nq_b, b_n1, b_n2, q_n1, q_n2, q_n5, List.length_map, Nat.add_zero, go_sem]
        repeat refine sd1 ?_
        have hP3 := hP2
        refine CallVC.same (due_ok n (by omega) true false (.sl mo 0 ol) (.int .i64 num) (.int .i64 seen) (.sl ma 0 al) (.sl m 0 inn1.length) inn1 [m] (.inr ⟨m, true, by simp only [nextI_len], rfl, by simp [q0]⟩) (by simp; omega) ps2 hP3.len hP3.ok hP3.st hP3.nodup (by have := hP3.i2; omega) (by simp [q5])) ?_
        obtain ⟨m3, n3, hr3, hmn3⟩ := resC_due inn1 ps2
        rw [hr3]
        simp only [Msg.row, q5, q7, nS2, nS2', Nat.add_assoc, a_n1, b_n1, q_n1, go_sem]
        repeat refine sd1 ?_
        refine ⟨⟨i + 1, 10000 * (i + 1) + 640, 10000 * (i + 1) + 768, 10000 * (i + 1) + 832, inn1, ps2, out1 ++ [m2], m3, n3⟩, ⟨hP3, by simp only [nextI_len]; exact h2, by simp only []; omega, by rw [← h4]; show delG (ps.length - (i + 1)) _ _ _ = _; rw [show ps.length - (i + 1) = k by omega], by simp; omega, by simp only []; omega, by simp only []; omega, by simp only []; omega, by simp only []; omega, by simp only []; omega, by simp only []; omega, by simp only []; omega, by simp only []; omega, by simp only []; omega, hmn3⟩, ?_, ?_⟩
        · have : n2 ≠ [] := by rintro rfl; simp at hnl3
          simp only [this, if_false]
          split <;> omega
        · refine Sub.of (hfz hF2) (by simp only [List.length_append, go_sem, subT, and_self]) ?_ (by simp [subK, keys]) (by simp only []; omega)
          simp [subH, Tx.look, hlo, Msg.row, q5, q7, q0, a_n1, b_n1, q_n1]
      | false =>
        rw [hlo] at h4
        simp only [if_false, Bool.false_eq_true] at h4
        have hst := h1.st d hd
        have hok := Dat.ok_bounds (h1.ok d hd)
        rw [← e1] at hst hok
        have r1 := getD_eI inn1 (i := m2.st.toNat) (by omega)
        simp only [r1, eI, hF, hFm, q5, q6, q7, q8, q9, q0, Nat.add_assoc, a_b, a_q, List.length_map, Nat.add_zero, go_sem]
        repeat refine sd1 ?_
        have hsq := serB16_at h1.i3 (k := m2.st.toNat) (by omega)
        refine CallVC.same (next_ok n m (.inl (show n.l < L + 1 by omega)) (.inl (show m.l < L + 1 by omega)) hnm mo ma ol al num seen (by omega) (by omega) m2.st (inn1.getD m2.st.toNat 0) inn1 h1.i3 hok.2.2.1 hst hsq.1 hsq.2 ps2 (by have := hP2.len; omega) hP2.ok (by simp [q5]) (by simp [q0])) ?_
        have hP3 := hP2.next m2.st (inn1.getD m2.st.toNat 0)
        have hwl3 : (nextP inn1 ps2 m2.st (inn1.getD m2.st.toNat 0)).length ≤ ps2.length := List.length_filter_le _ _
        obtain ⟨inn3, hin3⟩ : ∃ x, x = nextI inn1 m2.st (inn1.getD m2.st.toNat 0) := ⟨_, rfl⟩
        obtain ⟨ps3, hps3⟩ : ∃ x, x = nextP inn1 ps2 m2.st (inn1.getD m2.st.toNat 0) := ⟨_, rfl⟩
        have hl3 : inn3.length = inn1.length := by rw [hin3]; exact nextI_len _ _ _
        rw [← hin3, ← hps3] at hP3 h4
        rw [← hps3] at hwl3
        rw [← hin3, ← hps3]
        simp only [q5, q6, q7, q8, q9, q0, nS2, Nat.add_assoc, a_b, nb_a, a_q, nq_a, a_n1, a_n2, b_q, nq_b, b_n1, b_n2, q_n1, q_n2, q_n5, List.length_map, go_sem]
        refine ⟨okDyn_num (fun x => if x = n then 1 else if x = m then 2 else x.i + 100) (by simp only [numF, List.map, q5, q7, q9, q0, if_true, if_false]; kernel_rfl), ?_⟩
        repeat refine sd1 ?_
        refine CallVC.same (due_ok n (by omega) true false (.sl mo 0 ol) (.int .i64 num) (.int .i64 seen) (.sl ma 0 al) (.sl m 0 inn1.length) inn3 [m] (.inr ⟨m, true, by rw [hl3], rfl, by simp [q0]⟩) (by simp; omega) ps3 hP3.len hP3.ok hP3.st hP3.nodup (by have := hP3.i2; omega) (by simp [q5])) ?_
        obtain ⟨m3, n3, hr3, hmn3⟩ := resC_due inn3 ps3
        rw [hr3]
        simp only [Msg.row, q5, q7, nS2, nS2', Nat.add_assoc, a_n1, b_n1, q_n1, go_sem]
        repeat refine sd1 ?_
        refine ⟨⟨i + 1, 10000 * (i + 1) + 1024, 10000 * (i + 1) + 1152, 10000 * (i + 1) + 1216, inn3, ps3, out1 ++ [m2], m3, n3⟩, ⟨hP3, hl3.trans h2, by simp only []; omega, by rw [← h4]; show delG (ps.length - (i + 1)) _ _ _ = _; rw [show ps.length - (i + 1) = k by omega], by simp; omega, by simp only []; omega, by simp only []; omega, by simp only []; omega, by simp only []; omega, by simp only []; omega, by simp only []; omega, by simp only []; omega, by simp only []; omega, by simp only []; omega, hmn3⟩, ?_, ?_⟩
        · have : n2 ≠ [] := by rintro rfl; simp at hnl3
          simp only [this, if_false]
          split <;> omega
        · refine Sub.of (hfz hF2) (by simp only [List.length_append, go_sem, subT, and_self]) ?_ (by simp [subK, keys]) (by simp only []; omega)
          simp [subH, Tx.look, hlo, Msg.row, q5, q7, q0, a_n1, b_n1, q_n1]
end Go.Proofs.Ytfhhbkehlfipgaa
end
