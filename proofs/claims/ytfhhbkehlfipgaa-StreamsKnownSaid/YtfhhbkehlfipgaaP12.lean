/- Lemmas for the walk: YC30, YD1, YC59, YC61, YC61b, T35. -/
import Derived.Test.YtfhhbkehlfipgaaP11
import Derived.Test.YtfhhbkehlfipgaaP10
set_option linter.all false
section
namespace Go.Proofs.Ytfhhbkehlfipgaa
open Go.Tx
set_option maxRecDepth 100000
set_option maxHeartbeats 16000000
theorem nm_beq (a i j : Nat) : ((⟨a, i⟩ : Nm) == ⟨a, j⟩) = (i == j) := by rw [Bool.eq_iff_iff]; simp
def takeG (inn : List Int) (ps : List Dat) (d : Dat) : List Int × List Dat × List Msg :=
 if ps.any (fun y => y.tsn == d.tsn) || (!d.lo && decide (lead d.sq (inn.getD d.st.toNat 0) 16 < 0)) then (inn, ps, []) else delG (ps.length + 1) inn (ps ++ [d]) []
theorem take1_ok {F : SF} {L nx : Nat} (y : Dat) (a : Nm) (ha : a.l ≤ L) (ea : TypeId) (o p : Bool) (d : Dat) (hF : F a = some (.rows ea 8 o p [d.row])) :
  Con Try.prog 80 [.agg y.row, .ptr a 0 0] F L nx nx (.bool (y.tsn == d.tsn)) [] [a] := by
 refine bdy Try.f80 (hrd := (by simpa using ha)) ?_
 intro F3 hF1 hF2
 have hF := (hF1 a (by simp)).trans hF
 have q1 := nm_out' ha
 have q2 := nm_out ha
 simp only [Dat.row] at hF
 simp only [Try.f80, cx, Dat.row, hF, q2, Nat.add_zero, go_sem, meths]
 exact .bool (.inr rfl) rfl rfl (by simp [UpdAll])
theorem delG_len : ∀ (k : Nat) (inn : List Int) (ps : List Dat) (out : List Msg), (delG k inn ps out).1.length = inn.length
 | 0, _, _, _ => rfl
 | k + 1, inn, ps, out => by
  rw [delG]
  split
  ·rfl
  ·split
   ·exact delG_len k _ _ _
   ·rw [delG_len k, nextI_len]
theorem deliverS_ok {F : SF} {L nx : Nat} (n m mp : Nm) (hn : n.l < L ∨ (n.l = L ∧ n.i < nx)) (hm : m.l < L ∨ (m.l = L ∧ m.i < nx)) (hnm : n ≠ m) (hpn : mp ≠ n) (hpm : mp ≠ m) (mo ma : Nm) (ol al : Nat) (num seen : Int) (hmo : mo.l ≤ L) (hma : ma.l ≤ L) (inn : List Int) (ps : List Dat) (hP : DelP inn ps)
  (hF : F n = some (.rows 106 6 true false [[.sl mo 0 ol, .sl m 0 inn.length, .sl mp 0 ps.length, .int .i64 num, .int .i64 seen, .sl ma 0 al]])) (hFm : F m = some (.rows 3 1 true true (inn.map eI))) (hFp : F mp = some (.rows 43 8 true true (ps.map Dat.row))) :
  Con Try.prog 61 [.ptr n 0 0] F L nx nx (.fs 4 ((delG ps.length inn ps []).2.2.map Msg.row)) [(mp, .rows 43 8 false true (ps.map Dat.row)), (n, .rows 106 6 true false [[.sl mo 0 ol, .sl m 0 inn.length, .fs 8 (ps.map Dat.row), .int .i64 num, .int .i64 seen, .sl ma 0 al]]), (n, .rows 106 6 true false [[.sl mo 0 ol, .sl m 0 inn.length, .fs 8 ((delG ps.length inn ps []).2.1.map Dat.row), .int .i64 num, .int .i64 seen, .sl ma 0 al]]), (m, .rows 3 1 true true ((delG ps.length inn ps []).1.map eI))] [n, mp, n, m] := by
 have e1 : wkNLL [[.sl mo 0 ol, .sl m 0 inn.length, .sl mp 0 ps.length, .int .i64 num, .int .i64 seen, .sl ma 0 al]] [[.sl mo 0 ol, .sl m 0 inn.length, .fs 8 (ps.map Dat.row), .int .i64 num, .int .i64 seen, .sl ma 0 al]] = [mp] := by simp [wkNLL, wkNL, wkN]
 have e2 : unown F [mp] = [(mp, .rows 43 8 false true (ps.map Dat.row))] := by simp [unown, hFp]
 have := Con.frz (rs1 := [[.sl mo 0 ol, .sl m 0 inn.length, .fs 8 (ps.map Dat.row), .int .i64 num, .int .i64 seen, .sl ma 0 al]]) hF (by simp [WkLL, WkL, Wk, hFp, List.take_of_length_le]) (by rw [e1]; simp [Ne.symm hpn]) (deliver_ok (F := F.upd (unown F (wkNLL [[.sl mo 0 ol, .sl m 0 inn.length, .sl mp 0 ps.length, .int .i64 num, .int .i64 seen, .sl ma 0 al]] [[.sl mo 0 ol, .sl m 0 inn.length, .fs 8 (ps.map Dat.row), .int .i64 num, .int .i64 seen, .sl ma 0 al]]) ++ [(n, .rows 106 6 true false [[.sl mo 0 ol, .sl m 0 inn.length, .fs 8 (ps.map Dat.row), .int .i64 num, .int .i64 seen, .sl ma 0 al]])])) (L := L) (nx := nx) n m hn hm hnm mo ma ol al num seen hmo hma inn ps hP (by rw [e1, e2]; simp [SF.upd, SF.set]) (by rw [e1, e2]; simp [SF.upd, SF.set, Ne.symm hnm, Ne.symm hpm, hFm]))
 rw [e1, e2] at this
 exact this
theorem take_ok {F : SF} {L nx : Nat} (out inn asked : List Int) (num seen : Int) (hS : Str0 out inn num seen asked) (ps : List Dat) (hP : PsOk inn ps) (hD : dueG inn ps = none) (d : Dat) (hd : d.ok = true) (hst : d.st < inn.length) (hlen : ps.length < 80) :
  Con Try.prog 39 [strV out inn num seen asked ps, .agg d.row] F L nx nx (.tup [strV out (takeG inn ps d).1 num seen asked (takeG inn ps d).2.1, .fs 4 ((takeG inn ps d).2.2.map Msg.row), .int .i64 0]) [] [] := by
 have hp80 := hP.len
 have ho2 := hS.o2
 have hi2 := hS.i2
 have ha2 := hS.a2
 have hbg : ∀ F L nx, Con Try.prog 41 [strV out inn num seen asked ps] F L nx (nx + 5) (.tup [.ptr ⟨L, nx⟩ 0 0, .int .i64 0]) (stU L nx out inn asked num seen ps) [] := fun F L nx => begin_ok out inn asked num seen hS ps hP hD
 simp only [strV, stU] at hbg
 have f0 : ((0 : Int) != 0) = false := rfl
 have f1 : decide ((inn.length : Int) ≤ d.st) = false := dF (by omega)
 refine bdy Try.f39 ?_
 intro F3 hF1 hF2
 simp only [Try.f39, cx, strV, Dat.row, go_sem, meths]
 refine CallVC.same (hbg _ _ _) ?_
 simp only [f0, go_sem]
 refine CallVC.same (piece_ok d) ?_
 simp only [hd, f1, List.length_map, go_sem]
 refine ⟨by kernel_rfl, CallVC.same (containsFuncD_ok ps 80 [] [.ptr ⟨L + 1, 32⟩ 0 0] (fun y => y.tsn == d.tsn) [⟨L + 1, 32⟩] (by simp) (by omega) (fun x hx L' nx' hL => take1_ok x ⟨L + 1, 32⟩ hL 43 true true d (by simp [Dat.row]))) ?_⟩
 have f2 : decide ((80 : Int) ≤ (ps.length : Int)) = false := dF (by omega)
 have hd0 := Dat.ok_bounds hd
 have r1 := getD_eI inn (i := d.st.toNat) (by omega)
 have hsq := serB16_at hS.i3 (k := d.st.toNat) (by omega)
 have hnd : (∀ y ∈ ps, y.tsn ≠ d.tsn) → DelP inn (ps ++ [d]) := by
  intro hne
  refine ⟨by simp; omega, ?_, ?_, ?_, hS.i3, hi2⟩
  ·intro x hx
   rcases List.mem_append.1 hx with h | h
   ·exact (partOk_ok (hP.all x h)).1
   ·simp at h; subst h; exact hd
  ·intro x hx
   rcases List.mem_append.1 hx with h | h
   ·exact (partOk_ok (hP.all x h)).2.1
   ·simp at h; subst h; exact hst
  ·rw [List.map_append, List.nodup_append]
   refine ⟨hP.nodup, by simp, ?_⟩
   intro x hx y hy
   simp at hy; subst hy
   obtain ⟨z, hz, rfl⟩ := List.mem_map.1 hx
   exact hne z hz
 unfold takeG
 cases hc : ps.any (fun y => y.tsn == d.tsn) with
 | true =>
  simp only [Bool.true_or, if_true]
  simp only [Nat.add_zero, go_sem]
  repeat refine sd1 ?_
  exact PostF.rs (v0 := .tup [.agg [.sl ⟨L + 1, 193⟩ 0 out.length, .sl ⟨L + 1, 194⟩ 0 inn.length, .sl ⟨L + 1, 195⟩ 0 ps.length, .int .i64 num, .int .i64 seen, .sl ⟨L + 1, 196⟩ 0 asked.length], .nilS, .int .i64 0]) (.inr rfl)
 | false =>
  have hP2 := hnd (by
   intro y hy he
   rw [List.any_eq_false] at hc
   exact hc y hy (by simp [he]))
  have e1 : ps.map Dat.row ++ [d.row] = (ps ++ [d]).map Dat.row := by simp
  have e2 : ps.length + 1 = (ps ++ [d]).length := by simp
  have hrl := delG_len (ps ++ [d]).length inn (ps ++ [d]) []
  rw [e2]
  obtain ⟨r, hr⟩ : ∃ r, r = delG (ps ++ [d]).length inn (ps ++ [d]) [] := ⟨_, rfl⟩
  rw [← hr] at hrl
  cases hlo : d.lo with
  | true =>
   simp only [Bool.not_true, Bool.false_and, Bool.or_false, Bool.false_eq_true, if_false]
   simp only [f2, nm_beq, List.length_map, Nat.add_zero, go_sem]
   repeat refine sd1 ?_
   refine CallVC.same (deliverS_ok ⟨L + 1, 192⟩ ⟨L + 1, 194⟩ ⟨L + 1, 1541⟩ (.inr ⟨rfl, by simp⟩) (.inr ⟨rfl, by simp⟩) (by simp) (by simp) (by simp) ⟨L + 1, 193⟩ ⟨L + 1, 196⟩ out.length asked.length num seen (Nat.le_refl _) (Nat.le_refl _) inn (ps ++ [d]) hP2 (by simp) (by simp) (by simp [Dat.row, hlo])) ?_
   rw [← hr]
   simp only [Nat.add_zero, go_sem]
   repeat refine sd1 ?_
   exact PostF.rs (v0 := .tup [.agg [.sl ⟨L + 1, 193⟩ 0 out.length, .sl ⟨L + 1, 194⟩ 0 inn.length, .fs 8 (r.2.1.map Dat.row), .int .i64 num, .int .i64 seen, .sl ⟨L + 1, 196⟩ 0 asked.length], .fs 4 (r.2.2.map Msg.row), .int .i64 0] ) (.inr rfl) (hw := by simp [Wk, WkL, Tx.look, List.take_of_length_le, hrl])
  | false =>
   cases hle : decide (lead d.sq (inn.getD d.st.toNat 0) 16 < 0) with
   | true =>
    simp only [Bool.not_false, Bool.true_and, Bool.or_true, if_true]
    simp only [r1, eI, List.length_map, go_sem]
    repeat refine sd1 ?_
    refine CallVC.same (lead16_ok d.sq (inn.getD d.st.toNat 0) hd0.2.2.2.2.1 hd0.2.2.2.2.2.1 hsq.1 hsq.2) ?_
    simp only [hle, Nat.add_zero, go_sem]
    repeat refine sd1 ?_
    exact PostF.rs (v0 := .tup [.agg [.sl ⟨L + 1, 193⟩ 0 out.length, .sl ⟨L + 1, 194⟩ 0 inn.length, .sl ⟨L + 1, 195⟩ 0 ps.length, .int .i64 num, .int .i64 seen, .sl ⟨L + 1, 196⟩ 0 asked.length], .nilS, .int .i64 0]) (.inr rfl)
   | false =>
    simp only [Bool.not_false, Bool.true_and, Bool.or_false, Bool.false_eq_true, if_false]
    simp only [r1, eI, List.length_map, go_sem]
    repeat refine sd1 ?_
    refine CallVC.same (lead16_ok d.sq (inn.getD d.st.toNat 0) hd0.2.2.2.2.1 hd0.2.2.2.2.2.1 hsq.1 hsq.2) ?_
    simp only [f2, hle, nm_beq, List.length_map, Nat.add_zero, go_sem]
    repeat refine sd1 ?_
    refine CallVC.same (deliverS_ok ⟨L + 1, 192⟩ ⟨L + 1, 194⟩ ⟨L + 1, 1829⟩ (.inr ⟨rfl, by simp⟩) (.inr ⟨rfl, by simp⟩) (by simp) (by simp) (by simp) ⟨L + 1, 193⟩ ⟨L + 1, 196⟩ out.length asked.length num seen (Nat.le_refl _) (Nat.le_refl _) inn (ps ++ [d]) hP2 (by simp) (by simp) (by simp [Dat.row, hlo])) ?_
    rw [← hr]
    simp only [Nat.add_zero, go_sem]
    repeat refine sd1 ?_
    exact PostF.rs (v0 := .tup [.agg [.sl ⟨L + 1, 193⟩ 0 out.length, .sl ⟨L + 1, 194⟩ 0 inn.length, .fs 8 (r.2.1.map Dat.row), .int .i64 num, .int .i64 seen, .sl ⟨L + 1, 196⟩ 0 asked.length], .fs 4 (r.2.2.map Msg.row), .int .i64 0] ) (.inr rfl) (hw := by simp [Wk, WkL, Tx.look, List.take_of_length_le, hrl])
def datZ : Dat := ⟨0, 0, 0, 0, false, false, false, []⟩
def cutS (ps : List Dat) : Nat → Int → Dat → List Int → List Int
 | 0, _, _, _ => []
 | k + 1, t, b, ns =>
  match getT ps t with
  | none => []
  | some d =>
   if d.la || ns.contains t then []
   else if decide (0 < ns.length) && (d.st != b.st || d.sq != b.sq || d.lo != b.lo) then []
   else if d.fi then ns ++ [t] else cutS ps k ((t - 1) % 4294967296) d (ns ++ [t])
def cutG (ps : List Dat) (cum : Int) : List Int := cutS ps (ps.length + 1) cum datZ []
def skB (cum : Int) (kept : List Int) (d : Dat) : Bool := d.lo && decide (lead d.tsn cum 32 ≤ 0) && !kept.contains d.tsn
def skipStep (z : List Int × List Dat) (k : Int × Int) : List Int × List Dat :=
 if 0 ≤ lead k.2 (z.1.getD k.1.toNat 0) 16 then (nextI z.1 k.1 k.2, nextP z.1 z.2 k.1 k.2) else z
def skipL (inn : List Int) (ps : List Dat) (sk : List (Int × Int)) : List Int × List Dat := sk.foldl skipStep (inn, ps)
def skipP (inn : List Int) (ps : List Dat) (cum : Int) (sk : List (Int × Int)) : List Dat := withoutG (skipL inn ps sk).2 (skB cum (cutG (skipL inn ps sk).2 cum))
def skipG (inn : List Int) (ps : List Dat) (cum : Int) (sk : List (Int × Int)) : List Int × List Dat × List Msg := delG (skipP inn ps cum sk).length (skipL inn ps sk).1 (skipP inn ps cum sk) []
theorem PsOk.without {inn : List Int} {ps : List Dat} (h : PsOk inn ps) (p : Dat → Bool) : PsOk inn (withoutG ps p) where
 len := Nat.le_trans (List.length_filter_le _ _) h.len
 all := fun d hd => h.all d (List.mem_filter.1 hd).1
 nodup := List.Nodup.sublist (List.Sublist.map _ List.filter_sublist) h.nodup
theorem PsOk.next {inn : List Int} {ps : List Dat} (h : PsOk inn ps) (st sq : Int) (hst : 0 ≤ st) : PsOk (nextI inn st sq) (nextP inn ps st sq) := by
 have hw := h.without (oldB (nextI inn st sq) st)
 refine ⟨hw.len, fun d hd => ?_, hw.nodup⟩
 have hm := List.mem_filter.1 hd
 obtain ⟨a1, a2, a3⟩ := partOk_ok (h.all d hm.1)
 have hb := Dat.ok_bounds a1
 unfold partOk
 rw [a1, nextI_len]
 simp only [Bool.true_and, Bool.and_eq_true, decide_eq_true_eq, Bool.or_eq_true]
 refine ⟨a2, ?_⟩
 by_cases hs : d.st = st
 ·have := hm.2
  simp only [oldB, hs, beq_self_eq_true, Bool.true_and, Bool.not_eq_true', Bool.and_eq_false_iff, Bool.not_eq_false', decide_eq_false_iff_not] at this
  rcases this with h | h
  ·exact .inl h
  ·right; rw [hs]; omega
 ·rcases a3 with h | h
  ·exact .inl h
  ·right
   have : (nextI inn st sq).getD d.st.toNat 0 = inn.getD d.st.toNat 0 := by
    unfold nextI
    rw [List.getD_eq_getElem?_getD, List.getElem?_set_ne (by omega), ← List.getD_eq_getElem?_getD]
   rw [this]; exact h
theorem delG_valid : ∀ (k : Nat) (inn : List Int) (ps : List Dat) (out : List Msg), PsOk inn ps → inn.all (serB 16) = true → ps.length ≤ k →
  PsOk (delG k inn ps out).1 (delG k inn ps out).2.1 ∧ dueG (delG k inn ps out).1 (delG k inn ps out).2.1 = none ∧ (delG k inn ps out).1.all (serB 16) = true
 | 0, inn, ps, out, h, hi, hl => by
  have : ps = [] := List.length_eq_zero_iff.1 (by omega)
  subst this
  exact ⟨h, rfl, hi⟩
 | k + 1, inn, ps, out, h, hi, hl => by
  rw [delG]
  cases hd : dueG inn ps with
  | none => exact ⟨h, hd, hi⟩
  | some r =>
   obtain ⟨m, ns⟩ := r
   obtain ⟨d, hdm, hc, hdq⟩ := due_spec hd
   obtain ⟨e1, e2, e3, e4⟩ := complete_spec hc
   have hwl : (withoutG ps fun d => ns.contains d.tsn).length < ps.length := without_len hdm (by simpa using e4)
   have h2 := h.without fun d => ns.contains d.tsn
   simp only
   split
   ·exact delG_valid k _ _ _ h2 hi (by omega)
   ·have hb := Dat.ok_bounds (partOk_ok (h.all d hdm)).1
    refine delG_valid k _ _ _ (h2.next _ _ (by omega)) (nextI_ser hi _ _) ?_
    have : (nextP inn (withoutG ps fun d => ns.contains d.tsn) m.st (inn.getD m.st.toNat 0)).length ≤ _ := List.length_filter_le _ _
    omega
theorem psOk_add {inn : List Int} {ps : List Dat} (h : PsOk inn ps) {d : Dat} (hl : ps.length < 80) (hd : partOk inn d = true) (hne : ps.any (fun y => y.tsn == d.tsn) = false) : PsOk inn (ps ++ [d]) where
 len := by simp; omega
 all := by
  intro x hx
  rcases List.mem_append.1 hx with h' | h'
  ·exact h.all x h'
  ·simp at h'; subst h'; exact hd
 nodup := by
  rw [List.map_append, List.nodup_append]
  refine ⟨h.nodup, by simp, ?_⟩
  intro x hx y hy
  simp at hy; subst hy
  obtain ⟨z, hz, rfl⟩ := List.mem_map.1 hx
  rw [List.any_eq_false] at hne
  exact fun he => hne z hz (by simp [he])
theorem takeG_valid {inn : List Int} {ps : List Dat} (h : PsOk inn ps) (hD : dueG inn ps = none) (hi : inn.all (serB 16) = true) {d : Dat} (hl : ps.length < 80) (hd : d.ok = true) (hst : d.st < inn.length) :
  PsOk (takeG inn ps d).1 (takeG inn ps d).2.1 ∧ dueG (takeG inn ps d).1 (takeG inn ps d).2.1 = none ∧ (takeG inn ps d).1.all (serB 16) = true := by
 unfold takeG
 split
 ·exact ⟨h, hD, hi⟩
 ·rename_i hc
  simp only [Bool.or_eq_true, Bool.and_eq_true, Bool.not_eq_true', decide_eq_true_eq, not_or, not_and] at hc
  refine delG_valid _ _ _ _ (psOk_add h hl ?_ (by simpa using hc.1)) hi (by simp)
  unfold partOk
  rw [hd]
  simp only [Bool.true_and, Bool.and_eq_true, decide_eq_true_eq, Bool.or_eq_true]
  refine ⟨hst, ?_⟩
  cases hlo : d.lo with
  | true => exact .inl rfl
  | false => right; have := hc.2 hlo; omega
theorem takeG_len (inn : List Int) (ps : List Dat) (d : Dat) : (takeG inn ps d).1.length = inn.length := by
 unfold takeG
 split
 ·rfl
 ·exact delG_len _ _ _ _
theorem delG_le : ∀ (k : Nat) (inn : List Int) (ps : List Dat) (out : List Msg), (delG k inn ps out).2.1.length ≤ ps.length
 | 0, _, _, _ => Nat.le_refl _
 | k + 1, inn, ps, out => by
  rw [delG]
  split
  ·exact Nat.le_refl _
  ·rename_i m ns _
   have h1 : (withoutG ps fun d => ns.contains d.tsn).length ≤ ps.length := List.length_filter_le _ _
   simp only
   split
   ·exact Nat.le_trans (delG_le k _ _ _) h1
   ·refine Nat.le_trans (delG_le k _ _ _) (Nat.le_trans ?_ h1)
    exact List.length_filter_le _ _
theorem takeG_le (inn : List Int) (ps : List Dat) (d : Dat) : (takeG inn ps d).2.1.length ≤ ps.length + 1 := by
 unfold takeG
 split
 ·simp
 ·refine Nat.le_trans (delG_le _ _ _ _) (by simp)
theorem Str0.inn {out inn inn2 asked : List Int} {num seen : Int} (h : Str0 out inn num seen asked) (hl : inn2.length = inn.length) (hi : inn2.all (serB 16) = true) : Str0 out inn2 num seen asked :=
 ⟨h.o1, h.o2, h.o3, by rw [hl]; exact h.i1, by rw [hl]; exact h.i2, hi, h.n, h.s, h.a, h.a2⟩
theorem skipStep_ok {z : List Int × List Dat} (h : PsOk z.1 z.2) (hi : z.1.all (serB 16) = true) (k : Int × Int) (hk : 0 ≤ k.1) : PsOk (skipStep z k).1 (skipStep z k).2 ∧ (skipStep z k).1.all (serB 16) = true ∧ (skipStep z k).1.length = z.1.length := by
 unfold skipStep
 split
 ·exact ⟨h.next _ _ hk, nextI_ser hi _ _, nextI_len _ _ _⟩
 ·exact ⟨h, hi, rfl⟩
theorem skipL_ok : ∀ (sk : List (Int × Int)) (z : List Int × List Dat), PsOk z.1 z.2 → z.1.all (serB 16) = true → (∀ k ∈ sk, 0 ≤ k.1) → PsOk (sk.foldl skipStep z).1 (sk.foldl skipStep z).2 ∧ (sk.foldl skipStep z).1.all (serB 16) = true ∧ (sk.foldl skipStep z).1.length = z.1.length
 | [], z, h, hi, _ => ⟨h, hi, rfl⟩
 | k :: sk, z, h, hi, hk => by
  obtain ⟨a, b, c⟩ := skipStep_ok h hi k (hk k (by simp))
  obtain ⟨a', b', c'⟩ := skipL_ok sk (skipStep z k) a b (fun q hq => hk q (by simp [hq]))
  exact ⟨a', b', c'.trans c⟩
def comesG (inn : List Int) (ps : List Dat) : List Dat → List Msg → List Int × List Dat × List Msg
 | [], out => (inn, ps, out)
 | d :: l, out => comesG (takeG inn ps d).1 (takeG inn ps d).2.1 l (out ++ (takeG inn ps d).2.2)
def outOk (l : List Int) : Bool := decide (1 ≤ l.length) && (decide (l.length ≤ 16) && l.all (serB 16))
def partsB (inn : List Int) : List Dat → List Dat → Bool
 | _, [] => true
 | pre, d :: l => partOk inn d && (!(pre.any fun y => y.tsn == d.tsn)) && partsB inn (pre ++ [d]) l
def headB (out inn : List Int) (num seen : Int) (asked : List Int) : Bool := outOk out && (outOk inn && (serB 32 num && ((seen == -1 || serB 32 seen) && listedB asked out.length)))
def chkB (out inn : List Int) (num seen : Int) (asked : List Int) (ps : List Dat) : Bool :=
 headB out inn num seen asked && (decide (ps.length ≤ 80) && (partsB inn [] ps && (dueG inn ps).isNone))
theorem outOk_iff {l : List Int} : outOk l = true ↔ 1 ≤ l.length ∧ l.length ≤ 16 ∧ l.all (serB 16) = true := by simp [outOk]
theorem headB_iff {out inn asked : List Int} {num seen : Int} (h : headB out inn num seen asked = true) (ha : asked.length ≤ 1000000) : Str0 out inn num seen asked := by
 simp only [headB, Bool.and_eq_true, outOk_iff, Bool.or_eq_true, beq_iff_eq] at h
 obtain ⟨⟨a1, a2, a3⟩, ⟨b1, b2, b3⟩, c, d, e⟩ := h
 refine ⟨a1, a2, a3, b1, b2, b3, by simp [c], ?_, e, ?_⟩
 ·rcases d with d | d
  ·exact .inl d
  ·exact .inr (by simp [d])
 ·exact ha
theorem partsB_ok {inn : List Int} : ∀ (l pre : List Dat), partsB inn pre l = true → (pre.map Dat.tsn).Nodup → (∀ d ∈ l, partOk inn d = true) ∧ ((pre ++ l).map Dat.tsn).Nodup
 | [], pre, h, hn => ⟨by simp, by simpa using hn⟩
 | d :: l, pre, h, hn => by
  simp only [partsB, Bool.and_eq_true, Bool.not_eq_true'] at h
  obtain ⟨⟨h1, h2⟩, h3⟩ := h
  have h4 : ((pre ++ [d]).map Dat.tsn).Nodup := by
   rw [List.map_append, List.nodup_append]
   refine ⟨hn, by simp, ?_⟩
   intro x hx y hy
   simp at hy; subst hy
   obtain ⟨z, hz, rfl⟩ := List.mem_map.1 hx
   rw [List.any_eq_false] at h2
   exact fun he => h2 z hz (by simp [he])
  obtain ⟨a, b⟩ := partsB_ok l _ h3 h4
  refine ⟨?_, by simpa using b⟩
  intro x hx
  rcases List.mem_cons.1 hx with rfl | hx
  ·exact h1
  ·exact a x hx
theorem partsB_of {inn : List Int} : ∀ (l pre : List Dat), (∀ d ∈ l, partOk inn d = true) → ((pre ++ l).map Dat.tsn).Nodup → partsB inn pre l = true
 | [], pre, _, _ => rfl
 | d :: l, pre, h1, h2 => by
  simp only [partsB, Bool.and_eq_true, Bool.not_eq_true']
  refine ⟨⟨h1 d (by simp), ?_⟩, partsB_of l _ (fun x hx => h1 x (by simp [hx])) (by simpa using h2)⟩
  rw [List.any_eq_false]
  intro x hx he
  rw [List.map_append, List.nodup_append] at h2
  exact h2.2.2 x.tsn (List.mem_map_of_mem hx) d.tsn (by simp) (by simpa using he)
theorem chkB_ok {out inn asked : List Int} {num seen : Int} {ps : List Dat} (h : chkB out inn num seen asked ps = true) (ha : asked.length ≤ 1000000) : Str0 out inn num seen asked ∧ PsOk inn ps ∧ dueG inn ps = none := by
 simp only [chkB, Bool.and_eq_true, decide_eq_true_eq, Option.isNone_iff_eq_none] at h
 obtain ⟨h1, h2, h3, h4⟩ := h
 obtain ⟨a, b⟩ := partsB_ok ps [] h3 (by simp)
 exact ⟨headB_iff h1 ha, ⟨h2, a, by simpa using b⟩, h4⟩
theorem chkB_of {out inn asked : List Int} {num seen : Int} {ps : List Dat} (hS : Str0 out inn num seen asked) (hP : PsOk inn ps) (hD : dueG inn ps = none) : chkB out inn num seen asked ps = true := by
 have a1 := hS.n
 have a2 := hS.s
 simp only [List.all_cons, List.all_nil, Bool.and_true] at a1 a2
 simp only [chkB, headB, Bool.and_eq_true, outOk_iff, decide_eq_true_eq, Bool.or_eq_true, beq_iff_eq, Option.isNone_iff_eq_none]
 exact ⟨⟨⟨hS.o1, hS.o2, hS.o3⟩, ⟨hS.i1, hS.i2, hS.i3⟩, a1, a2, hS.a⟩, hP.len, partsB_of ps [] hP.all (by simpa using hP.nodup), hD⟩
theorem getT_none {ps : List Dat} {t : Int} : getT ps t = none ↔ (ps.any fun y => y.tsn == t) = false := by
 unfold getT
 rw [List.find?_eq_none, List.any_eq_false]
theorem getT_some {ps : List Dat} {t : Int} (h : (ps.any fun y => y.tsn == t) = true) : ∃ d, getT ps t = some d := by
 cases hg : getT ps t with
 | some d => exact ⟨d, rfl⟩
 | none => rw [getT_none] at hg; rw [hg] at h; cases h
theorem check_all {F : SF} {L nx : Nat} (out inn asked : List Int) (num seen : Int) (ps : List Dat) (ho : out.length ≤ 1000000) (hi : inn.length ≤ 1000000) (ha2 : asked.length ≤ 1000000) (hpl : ps.length ≤ 1000000) :
  Con Try.prog 31 [strV out inn num seen asked ps] F L nx nx (.int .i64 (if chkB out inn num seen asked ps then 0 else 350)) [] [] := by
 by_cases hc : chkB out inn num seen asked ps = true
 ·rw [if_pos hc]
  obtain ⟨a, b, c⟩ := chkB_ok hc ha2
  exact check_ok out inn asked num seen a ps b c
 rw [if_neg hc]
 refine bdy Try.f31 ?_
 intro F3 hF1 hF2
 simp only [Try.f31, cx, strV, Nat.add_zero, go_sem, meths]
 refine loopK.intro _ _ (I := fun i : Nat => ⟨[none, some (.ptr ⟨L + 1, 0⟩ 0 0), some (.int .i64 0), none, none, none, none, none, none, none, none, none, none, none, some (.agg [.fs 1 (out.map eI), .fs 1 (inn.map eI)]), some (.int .i64 i), none, none, none, none, none, none, none, none, none, none, none, none, none, none, none, none, none, none, none, none, none, none, none, none, none, none, none, none, none, none, none, none, none, none, none, none, none, none, none, none, none, none, none, none, none, none, none, none, none, none, none, none, none, none, none, none, none, none, none, none, none, none, none, none, none, none, none, none, none, none, none, none, none, none, none, none, none, none, none, none, none, none, none, none, none, none, none, none, none, none, none, none, none, none, none, none, none, none, none, none, none, none, none, none], [(⟨L + 1, 0⟩, .rows 34 6 true true [[.fs 1 (out.map eI), .fs 1 (inn.map eI), .fs 8 (ps.map Dat.row), .int .i64 num, .int .i64 seen, .fs 1 (asked.map eI)]])], 1000 * (i + 1)⟩) (pre := fun i => i ≤ 2 ∧ (1 ≤ i → outOk out = true) ∧ (2 ≤ i → outOk inn = true)) (μ := fun i => 2 - i) 0 ⟨by omega, by omega, by omega⟩ ?_ ?_
 ·exact Sub.of (hfz hF2) (by simp only [go_sem, subT, and_self, Int.natCast_zero]) (by simp [subH, Tx.look]) ⟨.inl rfl, trivial⟩ (by simp)
 ·rintro i ⟨hi', hq1, hq2⟩
  have hcc : i = 0 ∨ i = 1 ∨ i = 2 := by omega
  rcases hcc with rfl | rfl | rfl
  ·have z1 : decide (((0 : Nat) : Int) < 2) = true := rfl
   by_cases y1 : out.length < 1
   ·have z2 : decide ((out.length : Int) < 1) = true := dT (by omega)
    simp only [z1, z2, List.length_map, go_sem]
    repeat refine sd2 ?_
    exact .int (.inr rfl) rfl rfl (by simp [UpdAll])
   have z2 : decide ((out.length : Int) < 1) = false := dF (by omega)
   by_cases y2 : 16 < out.length
   ·have z3 : decide ((16 : Int) < (out.length : Int)) = true := dT (by omega)
    simp only [z1, z2, z3, List.length_map, go_sem]
    repeat refine sd2 ?_
    exact .int (.inr rfl) rfl rfl (by simp [UpdAll])
   have z3 : decide ((16 : Int) < (out.length : Int)) = false := dF (by omega)
   simp only [z1, z2, z3, List.length_map, go_sem]
   refine ⟨⟨by omega, by omega, by omega⟩, CallVC.same (serial_ok 16 out (by omega) (by omega) (by omega)) ?_⟩
   cases y3 : out.all (serB 16) with
   | false =>
    simp only [go_sem]
    exact .int (.inr rfl) rfl rfl (by simp [UpdAll])
   | true =>
    have y4 : outOk out = true := outOk_iff.2 ⟨by omega, by omega, y3⟩
    simp only [go_sem]
    refine ⟨⟨by omega, by omega⟩, 1, ⟨by omega, fun _ => by first | exact y4 | exact hq1 (by omega), fun h => by first | exact y4 | omega⟩, by omega, ?_⟩
    exact Sub.of (hfz hF2) (by simp only [go_sem, subT]; try trivial) (by simp [subH, Tx.look]) ⟨.inl rfl, trivial⟩ (by simp)
  ·have z1 : decide (((1 : Nat) : Int) < 2) = true := rfl
   by_cases y1 : inn.length < 1
   ·have z2 : decide ((inn.length : Int) < 1) = true := dT (by omega)
    simp only [z1, z2, List.length_map, go_sem]
    repeat refine sd2 ?_
    exact .int (.inr rfl) rfl rfl (by simp [UpdAll])
   have z2 : decide ((inn.length : Int) < 1) = false := dF (by omega)
   by_cases y2 : 16 < inn.length
   ·have z3 : decide ((16 : Int) < (inn.length : Int)) = true := dT (by omega)
    simp only [z1, z2, z3, List.length_map, go_sem]
    repeat refine sd2 ?_
    exact .int (.inr rfl) rfl rfl (by simp [UpdAll])
   have z3 : decide ((16 : Int) < (inn.length : Int)) = false := dF (by omega)
   simp only [z1, z2, z3, List.length_map, go_sem]
   refine ⟨⟨by omega, by omega, by omega⟩, CallVC.same (serial_ok 16 inn (by omega) (by omega) (by omega)) ?_⟩
   cases y3 : inn.all (serB 16) with
   | false =>
    simp only [go_sem]
    exact .int (.inr rfl) rfl rfl (by simp [UpdAll])
   | true =>
    have y4 : outOk inn = true := outOk_iff.2 ⟨by omega, by omega, y3⟩
    simp only [go_sem]
    refine ⟨⟨by omega, by omega⟩, 2, ⟨by omega, fun _ => by first | exact y4 | exact hq1 (by omega), fun h => by first | exact y4 | omega⟩, by omega, ?_⟩
    exact Sub.of (hfz hF2) (by simp only [go_sem, subT]; try trivial) (by simp [subH, Tx.look]) ⟨.inl rfl, trivial⟩ (by simp)
  ·have z1 : decide (((2 : Nat) : Int) < 2) = false := rfl
   by_cases y4 : 80 < ps.length
   ·have z2 : decide ((80 : Int) < (ps.length : Int)) = true := dT (by omega)
    simp only [z1, z2, List.length_map, go_sem]
    repeat refine sd2 ?_
    exact .int (.inr rfl) rfl rfl (by simp [UpdAll])
   have z2 : decide ((80 : Int) < (ps.length : Int)) = false := dF (by omega)
   simp only [z1, z2, List.length_map, go_sem]
   refine CallVC.pure (args2 := [_, .fs 1 ([num].map eI)]) ⟨rfl, ?_, trivial⟩ (serial_ok 32 [num] (by omega) (by omega) (by simp)) rfl ?_
   ·simp [Wk, eI]
   rw [show [num].all (serB 32) = serB 32 num by simp]
   cases y5 : serB 32 num with
   | false =>
    simp only [wkNL, wkN, go_sem]
    exact .int (.inr rfl) rfl rfl (by simp [UpdAll])
   | true =>
    by_cases hsn : seen = -1
    ·have fsn : (seen != -1) = false := neF hsn
     have y6 : (seen == -1) = true ∨ serB 32 seen = true := .inl (by simp [hsn])
     simp only [fsn, wkNL, wkN, List.length_map, Nat.add_zero, go_sem]
     refine CallVC.same (listed_ok asked out.length (by omega)) ?_
     cases y7 : listedB asked out.length with
     | false =>
      simp only [go_sem]
      exact .int (.inr rfl) rfl rfl (by simp [UpdAll])
     | true =>
      have hS : Str0 out inn num seen asked := headB_iff (by simp only [headB, Bool.and_eq_true, Bool.or_eq_true]; exact ⟨hq1 (by omega), hq2 (by omega), y5, y6, y7⟩) ha2
      have hi3 := hS.i3
      simp only [go_sem]
      refine loopK.intro _ _ (I := fun i : Nat => ⟨[none, some (.ptr ⟨L + 1, 0⟩ 0 0), some (.int .i64 0), none, none, some (.mp ⟨L + 1, 3832⟩), none, none, none, none, none, none, none, none, none, none, none, none, none, none, none, none, none, none, none, none, none, none, none, none, none, none, none, none, none, none, none, none, none, none, none, none, none, none, none, none, none, none, none, none, none, none, none, none, none, none, none, none, none, none, none, none, none, none, none, none, some (.fs 8 (ps.map Dat.row)), some (.int .i64 ps.length), some (.int .i64 i), none, none, none, none, none, none, none, none, none, none, none, none, none, none, none, none, none, none, none, none, none, none, none, none, none, none, none, none, none, none, none, none, none, none, none, none, none, none, none, none, none, none, none, none, none, none, none, none, none, none, none], [(⟨L + 1, 0⟩, .rows 34 6 true true [[.fs 1 (out.map eI), .fs 1 (inn.map eI), .fs 8 (ps.map Dat.row), .int .i64 num, .int .i64 seen, .fs 1 (asked.map eI)]]), (⟨L + 1, 3832⟩, .map true true ((ps.take i).map tK) ((ps.take i).map tB))], if i = ps.length then 1000000 else 10000 * (i + 1)⟩) (pre := fun i => i ≤ ps.length ∧ PsOk inn (ps.take i)) (μ := fun i => ps.length - i) 0 ⟨by omega, ⟨by simp, by simp, by simp⟩⟩ ?_ ?_
      ·refine Sub.of (hfz hF2) (by simp only [go_sem, subT, and_self, List.length_map, Int.natCast_zero]) ?_ (by simp [subK, keys]) (by simp only []; split <;> omega)
       simp [subH, Tx.look]
      ·rintro i ⟨hi, hPi⟩
       by_cases hlt : i < ps.length
       ·have hiN : (i = ps.length) = False := by apply eq_false; omega
        have f1 : decide ((i : Int) < (ps.length : Int)) = true := dT (by omega)
        have r0 := rowD hlt
        have k0 := mGet_mapF tB (ps.take i) (ps[i]).tsn
        have hik : intKeys ((ps.take i).map tK) := by intro k hk; obtain ⟨y, _, rfl⟩ := List.mem_map.1 hk; exact ⟨_, rfl⟩
        have htk : ps.take (i + 1) = ps.take i ++ [ps[i]] := List.take_succ_eq_append_getElem hlt
        have e1 : (ps.take (i + 1)).map tK = (ps.take i).map tK ++ [.int .i64 (ps[i]).tsn] := by rw [htk, List.map_append]; rfl
        have e2 : (ps.take (i + 1)).map tB = (ps.take i).map tB ++ [.bool true] := by rw [htk, List.map_append]; rfl
        obtain ⟨d, hdd⟩ : ∃ d, d = ps[i] := ⟨_, rfl⟩
        rw [← hdd] at r0 k0 e1 htk
        simp only [f1, r0, Dat.row, nB, Nat.add_assoc, hiN, List.length_map, go_sem]
        repeat refine sd1 ?_
        rw [show ([.int .i64 d.tsn, .int .i64 d.st, .int .i64 d.sq, .int .i64 d.pr, .bool d.fi, .bool d.la, .bool d.lo, .str d.pl] : List PV) = d.row from rfl]
        refine CallVC.same (piece_ok d) ?_
        cases hok : d.ok with
        | false =>
         simp only [Dat.row, Nat.add_assoc, go_sem]
         repeat refine sd1 ?_
         exact .int (.inr rfl) rfl rfl (by simp [UpdAll])
        | true =>
         obtain ⟨w1, w2, w3, w4, w5, w6, w7, w8⟩ := Dat.ok_bounds hok
         by_cases hst : (inn.length : Int) ≤ d.st
         ·have f2 : decide ((inn.length : Int) ≤ d.st) = true := dT (by omega)
          simp only [f2, Dat.row, nB, Nat.add_assoc, List.length_map, go_sem]
          repeat refine sd1 ?_
          exact .int (.inr rfl) rfl rfl (by simp [UpdAll])
         have f2 : decide ((inn.length : Int) ≤ d.st) = false := dF (by omega)
         have r1 := getD_eI inn (i := d.st.toNat) (by omega)
         obtain ⟨v1, v2⟩ := serB16_at hi3 (k := d.st.toNat) (by omega)
         cases hdup : (ps.take i).any (fun y => y.tsn == d.tsn) with
         | true =>
          obtain ⟨yy, hyy⟩ := getT_some hdup
          rw [hyy] at k0
          simp only [Option.map_some, tB] at k0
          simp only [f2, k0, Option.map_some, Option.getD_some, Dat.row, nB, Nat.add_assoc, List.length_map, Nat.add_zero, go_sem]
          repeat refine sd1 ?_
          exact .int (.inr rfl) rfl rfl (by simp [UpdAll])
         | false =>
          have ht := getT_none.2 hdup
          have k1 := mPutK_newF tB (ps.take i) _ ht
          have k2 := mPutV_newF tB (ps.take i) d.tsn (.bool true) ht
          rw [ht] at k0
          rw [← e1] at k1
          rw [← e2] at k2
          have hadd : ∀ hp : partOk inn d = true, PsOk inn (ps.take (i + 1)) := fun hp => by rw [htk]; exact psOk_add hPi (by simp only [List.length_take]; omega) hp hdup
          cases hlo : d.lo with
          | true =>
           simp only [hlo, f2, k0, k1, k2, Option.map_none, Option.getD_none, Dat.row, nB, Nat.add_assoc, List.length_map, Nat.add_zero, go_sem]
           repeat refine sd1 ?_
           refine ⟨i + 1, ⟨by omega, hadd (by simp only [partOk, hok, hlo, Bool.true_and, Bool.true_or, Bool.and_true, decide_eq_true_eq]; omega)⟩, by omega, ?_⟩
           refine Sub.of (hfz hF2) (by simp only [go_sem, subT, and_self, Int.natCast_succ]) ?_ (by simp [subK, keys]) (by simp only []; split <;> omega)
           simp [subH, Tx.look]
          | false =>
           simp only [hlo, f2, r1, eI, k0, Option.map_none, Option.getD_none, Dat.row, nB, Nat.add_assoc, List.length_map, Nat.add_zero, go_sem]
           repeat refine sd1 ?_
           refine CallVC.same (lead16_ok d.sq (inn.getD d.st.toNat 0) w5 w6 v1 v2) ?_
           by_cases hle : lead d.sq (inn.getD d.st.toNat 0) 16 < 0
           ·have f3 : decide (lead d.sq (inn.getD d.st.toNat 0) 16 < 0) = true := dT hle
            simp only [f3, Option.map_none, Nat.add_assoc, go_sem]
            repeat refine sd1 ?_
            exact .int (.inr rfl) rfl rfl (by simp [UpdAll])
           have f3 : decide (lead d.sq (inn.getD d.st.toNat 0) 16 < 0) = false := dF hle
           simp only [f3, k1, k2, Option.map_none, nB, Nat.add_assoc, Nat.add_zero, go_sem]
           repeat refine sd1 ?_
           refine ⟨i + 1, ⟨by omega, hadd (by simp only [partOk, hok, hlo, Bool.true_and, Bool.false_or, Bool.and_eq_true, decide_eq_true_eq]; omega)⟩, by omega, ?_⟩
           refine Sub.of (hfz hF2) (by simp only [go_sem, subT, and_self, Int.natCast_succ]) ?_ (by simp [subK, keys]) (by simp only []; split <;> omega)
           simp [subH, Tx.look]
       ·have f1 : decide ((i : Int) < (ps.length : Int)) = false := dF (by omega)
        have e : i = ps.length := by omega
        subst e
        have e3 : ps.take ps.length = ps := List.take_of_length_le (by omega)
        rw [e3] at hPi
        simp only [f1, go_sem]
        simp only [e3, go_sem]
        refine CallVC.same (due_ok ⟨L + 1, 1000096⟩ (Nat.le_refl _) true true (.fs 1 (out.map eI)) (.int .i64 num) (.int .i64 seen) (.fs 1 (asked.map eI)) (.fs 1 (inn.map eI)) inn [] (.inl ⟨rfl, rfl⟩) (by simp) ps hPi.len (fun x hx => (partOk_ok (hPi.all x hx)).1) (fun x hx => (partOk_ok (hPi.all x hx)).2.1) hPi.nodup (by have := hS.i2; omega) (by simp only [nm_eq, go_sem])) ?_
        cases hD : dueG inn ps with
        | none => exact absurd (chkB_of hS hPi hD) hc
        | some r =>
         obtain ⟨m, ns⟩ := r
         obtain ⟨_, _, hcm, _⟩ := due_spec hD
         have g5 : decide ((0 : Int) < (ns.length : Int)) = true := dT (by have := complete_ne hcm; omega)
         simp only [resC, Msg.row, List.length_map, g5, go_sem]
         repeat refine sd1 ?_
         exact .int (.inr rfl) rfl rfl (by simp [UpdAll])
    ·have fsn : (seen != -1) = true := neT hsn
     simp only [fsn, wkNL, wkN, go_sem]
     refine CallVC.pure (args2 := [_, .fs 1 ([seen].map eI)]) ⟨rfl, by simp [Wk, eI], trivial⟩ (serial_ok 32 [seen] (by omega) (by omega) (by simp)) rfl ?_
     rw [show [seen].all (serB 32) = serB 32 seen by simp]
     cases y60 : serB 32 seen with
     | false =>
      simp only [wkNL, wkN, go_sem]
      repeat refine sd1 ?_
      exact .int (.inr rfl) rfl rfl (by simp [UpdAll])
     | true =>
      have y6 : (seen == -1) = true ∨ serB 32 seen = true := .inr y60
      simp only [wkNL, wkN, List.length_map, Nat.add_zero, go_sem]
      refine CallVC.same (listed_ok asked out.length (by omega)) ?_
      cases y7 : listedB asked out.length with
      | false =>
       simp only [go_sem]
       repeat refine sd1 ?_
       exact .int (.inr rfl) rfl rfl (by simp [UpdAll])
      | true =>
       have hS : Str0 out inn num seen asked := headB_iff (by simp only [headB, Bool.and_eq_true, Bool.or_eq_true]; exact ⟨hq1 (by omega), hq2 (by omega), y5, y6, y7⟩) ha2
       have hi3 := hS.i3
       simp only [go_sem]
       refine loopK.intro _ _ (I := fun i : Nat => ⟨[none, some (.ptr ⟨L + 1, 0⟩ 0 0), some (.int .i64 0), none, none, some (.mp ⟨L + 1, 3960⟩), none, none, none, none, none, none, none, none, none, none, none, none, none, none, none, none, none, none, none, none, none, none, none, none, none, none, none, none, none, none, none, none, none, none, none, none, none, none, none, none, none, none, none, none, none, none, none, none, none, none, none, none, none, none, none, none, none, none, none, none, some (.fs 8 (ps.map Dat.row)), some (.int .i64 ps.length), some (.int .i64 i), none, none, none, none, none, none, none, none, none, none, none, none, none, none, none, none, none, none, none, none, none, none, none, none, none, none, none, none, none, none, none, none, none, none, none, none, none, none, none, none, none, none, none, none, none, none, none, none, none, none, none], [(⟨L + 1, 0⟩, .rows 34 6 true true [[.fs 1 (out.map eI), .fs 1 (inn.map eI), .fs 8 (ps.map Dat.row), .int .i64 num, .int .i64 seen, .fs 1 (asked.map eI)]]), (⟨L + 1, 3960⟩, .map true true ((ps.take i).map tK) ((ps.take i).map tB))], if i = ps.length then 1000000 else 10000 * (i + 1)⟩) (pre := fun i => i ≤ ps.length ∧ PsOk inn (ps.take i)) (μ := fun i => ps.length - i) 0 ⟨by omega, ⟨by simp, by simp, by simp⟩⟩ ?_ ?_
       ·refine Sub.of (hfz hF2) (by simp only [go_sem, subT, and_self, List.length_map, Int.natCast_zero]) ?_ (by simp [subK, keys]) (by simp only []; split <;> omega)
        simp [subH, Tx.look]
       ·rintro i ⟨hi, hPi⟩
        by_cases hlt : i < ps.length
        ·have hiN : (i = ps.length) = False := by apply eq_false; omega
         have f1 : decide ((i : Int) < (ps.length : Int)) = true := dT (by omega)
         have r0 := rowD hlt
         have k0 := mGet_mapF tB (ps.take i) (ps[i]).tsn
         have hik : intKeys ((ps.take i).map tK) := by intro k hk; obtain ⟨y, _, rfl⟩ := List.mem_map.1 hk; exact ⟨_, rfl⟩
         have htk : ps.take (i + 1) = ps.take i ++ [ps[i]] := List.take_succ_eq_append_getElem hlt
         have e1 : (ps.take (i + 1)).map tK = (ps.take i).map tK ++ [.int .i64 (ps[i]).tsn] := by rw [htk, List.map_append]; rfl
         have e2 : (ps.take (i + 1)).map tB = (ps.take i).map tB ++ [.bool true] := by rw [htk, List.map_append]; rfl
         obtain ⟨d, hdd⟩ : ∃ d, d = ps[i] := ⟨_, rfl⟩
         rw [← hdd] at r0 k0 e1 htk
         simp only [f1, r0, Dat.row, nB, Nat.add_assoc, hiN, List.length_map, go_sem]
         repeat refine sd1 ?_
         rw [show ([.int .i64 d.tsn, .int .i64 d.st, .int .i64 d.sq, .int .i64 d.pr, .bool d.fi, .bool d.la, .bool d.lo, .str d.pl] : List PV) = d.row from rfl]
         refine CallVC.same (piece_ok d) ?_
         cases hok : d.ok with
         | false =>
          simp only [Dat.row, Nat.add_assoc, go_sem]
          repeat refine sd1 ?_
          exact .int (.inr rfl) rfl rfl (by simp [UpdAll])
         | true =>
          obtain ⟨w1, w2, w3, w4, w5, w6, w7, w8⟩ := Dat.ok_bounds hok
          by_cases hst : (inn.length : Int) ≤ d.st
          ·have f2 : decide ((inn.length : Int) ≤ d.st) = true := dT (by omega)
           simp only [f2, Dat.row, nB, Nat.add_assoc, List.length_map, go_sem]
           repeat refine sd1 ?_
           exact .int (.inr rfl) rfl rfl (by simp [UpdAll])
          have f2 : decide ((inn.length : Int) ≤ d.st) = false := dF (by omega)
          have r1 := getD_eI inn (i := d.st.toNat) (by omega)
          obtain ⟨v1, v2⟩ := serB16_at hi3 (k := d.st.toNat) (by omega)
          cases hdup : (ps.take i).any (fun y => y.tsn == d.tsn) with
          | true =>
           obtain ⟨yy, hyy⟩ := getT_some hdup
           rw [hyy] at k0
           simp only [Option.map_some, tB] at k0
           simp only [f2, k0, Option.map_some, Option.getD_some, Dat.row, nB, Nat.add_assoc, List.length_map, Nat.add_zero, go_sem]
           repeat refine sd1 ?_
           exact .int (.inr rfl) rfl rfl (by simp [UpdAll])
          | false =>
           have ht := getT_none.2 hdup
           have k1 := mPutK_newF tB (ps.take i) _ ht
           have k2 := mPutV_newF tB (ps.take i) d.tsn (.bool true) ht
           rw [ht] at k0
           rw [← e1] at k1
           rw [← e2] at k2
           have hadd : ∀ hp : partOk inn d = true, PsOk inn (ps.take (i + 1)) := fun hp => by rw [htk]; exact psOk_add hPi (by simp only [List.length_take]; omega) hp hdup
           cases hlo : d.lo with
           | true =>
            simp only [hlo, f2, k0, k1, k2, Option.map_none, Option.getD_none, Dat.row, nB, Nat.add_assoc, List.length_map, Nat.add_zero, go_sem]
            repeat refine sd1 ?_
            refine ⟨i + 1, ⟨by omega, hadd (by simp only [partOk, hok, hlo, Bool.true_and, Bool.true_or, Bool.and_true, decide_eq_true_eq]; omega)⟩, by omega, ?_⟩
            refine Sub.of (hfz hF2) (by simp only [go_sem, subT, and_self, Int.natCast_succ]) ?_ (by simp [subK, keys]) (by simp only []; split <;> omega)
            simp [subH, Tx.look]
           | false =>
            simp only [hlo, f2, r1, eI, k0, Option.map_none, Option.getD_none, Dat.row, nB, Nat.add_assoc, List.length_map, Nat.add_zero, go_sem]
            repeat refine sd1 ?_
            refine CallVC.same (lead16_ok d.sq (inn.getD d.st.toNat 0) w5 w6 v1 v2) ?_
            by_cases hle : lead d.sq (inn.getD d.st.toNat 0) 16 < 0
            ·have f3 : decide (lead d.sq (inn.getD d.st.toNat 0) 16 < 0) = true := dT hle
             simp only [f3, Option.map_none, Nat.add_assoc, go_sem]
             repeat refine sd1 ?_
             exact .int (.inr rfl) rfl rfl (by simp [UpdAll])
            have f3 : decide (lead d.sq (inn.getD d.st.toNat 0) 16 < 0) = false := dF hle
            simp only [f3, k1, k2, Option.map_none, nB, Nat.add_assoc, Nat.add_zero, go_sem]
            repeat refine sd1 ?_
            refine ⟨i + 1, ⟨by omega, hadd (by simp only [partOk, hok, hlo, Bool.true_and, Bool.false_or, Bool.and_eq_true, decide_eq_true_eq]; omega)⟩, by omega, ?_⟩
            refine Sub.of (hfz hF2) (by simp only [go_sem, subT, and_self, Int.natCast_succ]) ?_ (by simp [subK, keys]) (by simp only []; split <;> omega)
            simp [subH, Tx.look]
        ·have f1 : decide ((i : Int) < (ps.length : Int)) = false := dF (by omega)
         have e : i = ps.length := by omega
         subst e
         have e3 : ps.take ps.length = ps := List.take_of_length_le (by omega)
         rw [e3] at hPi
         simp only [f1, go_sem]
         simp only [e3, go_sem]
         refine CallVC.same (due_ok ⟨L + 1, 1000096⟩ (Nat.le_refl _) true true (.fs 1 (out.map eI)) (.int .i64 num) (.int .i64 seen) (.fs 1 (asked.map eI)) (.fs 1 (inn.map eI)) inn [] (.inl ⟨rfl, rfl⟩) (by simp) ps hPi.len (fun x hx => (partOk_ok (hPi.all x hx)).1) (fun x hx => (partOk_ok (hPi.all x hx)).2.1) hPi.nodup (by have := hS.i2; omega) (by simp only [nm_eq, go_sem])) ?_
         cases hD : dueG inn ps with
         | none => exact absurd (chkB_of hS hPi hD) hc
         | some r =>
          obtain ⟨m, ns⟩ := r
          obtain ⟨_, _, hcm, _⟩ := due_spec hD
          have g5 : decide ((0 : Int) < (ns.length : Int)) = true := dT (by have := complete_ne hcm; omega)
          simp only [resC, Msg.row, List.length_map, g5, go_sem]
          repeat refine sd1 ?_
          exact .int (.inr rfl) rfl rfl (by simp [UpdAll])
def tsnB (t : Int) (y : Dat) : Bool := y.tsn == t
end Go.Proofs.Ytfhhbkehlfipgaa
end
section
namespace Go.Proofs.Ytfhhbkehlfipgaa
open Go.Tx
set_option maxRecDepth 100000
set_option maxHeartbeats 8000000
end Go.Proofs.Ytfhhbkehlfipgaa
end
section
namespace Go.Tx
open Go.Sx (lt_of_get)
theorem Con.frozen {P : Program} {f : FuncId} {args : List PV} {F : SF} {L nx k top : Nat} {v0 v : PV} {upd : List (Nm × SBlk)} {rd : List Nm} (h : Con P f args F (L + 1) k top v0 upd rd) (hk : ∀ n ∈ keys upd, n.l = L + 1) (hw : ∀ F : SF, Wk (F.upd upd) v0 v) (hn : ∀ n ∈ wkN v0 v, n.l = L + 1) (hf : nf v = true) : Con P f args F L nx nx v [] rd := by
 refine ⟨Nat.le_refl _, fun F2 hF2 E w args' hR _ hdp hv => ?_⟩
 have hL := h.2 F2 hF2 E w args' hR (fun k _ _ => hdp _ (by simp)) (fun n hn => hdp n (by omega)) hv
 have conv : ∀ v' w', CGives E F2 w (L + 1) k top v0 upd v' w' → CGives E F2 w L nx nx v [] v' w' := by
  rintro v' w' ⟨E1, q1, q2, q3⟩
  have hll : ∀ n b, F2 n = some b → b.live = true → n.l ≤ L := by
   intro n b hb hl
   obtain ⟨i, hi⟩ := (hR.blk n b hb).def_ hl
   rcases Nat.lt_or_ge L n.l with h | h
   ·rw [hdp n h] at hi; cases hi
   ·exact h
  let Fm : SF := fun n => if n.l ≤ L then (F2.upd upd) n else none
  have hm : SLe Fm (F2.upd upd) := by
   intro n b hb
   simp only [Fm] at hb
   split at hb
   ·exact .inr (.inl hb)
   ·cases hb
  have hG : ∀ n : Nm, n.l ≤ L → (F2.upd upd) n = F2 n := fun n hl => by rw [upd_eq, setAll_not (fun hk' => by have := hk n hk'; omega)]
  have hEE : ∀ n i, E n = some i → E1 n = some i ∧ E n = some i := fun n i h => ⟨q2.le n i h, h⟩
  have hzone : ∀ q, Zn E1 Fm w' q → Zn E F2 w' q := by
   rintro q ⟨k1, k2⟩
   refine ⟨k1, fun n b i hn ho hi hz he => ?_⟩
   have hl := hll n b hn (live_of_own ho)
   exact k2 n b i (by simp only [Fm]; rw [if_pos hl, hG n hl]; exact hn) ho (q2.le n i hi) hz he
  have hSm := StepR.less q2.rel hm
  have hzone' : ∀ q, Zn E1 (F2.upd upd) w' q → Zn E F2 w' q := fun q hq => hzone q (hSm.ext.zone q hq)
  have hEx : Ext Env.no w' (Zn E1 Fm w') Env.no w' (Zn E F2 w') := ⟨Env.le.refl _, hzone, fun _ _ => rfl⟩
  have hrel : HRel E F2 w' := by
   refine ⟨fun n b hn => ?_, fun n m b d i j hn hm' hnm ho hl hi hj hin hjn => ?_⟩
   ·by_cases hl : b.live = true
    ·have h1 := hll n b hn hl
     have := BRel.back hEE (hR.blk n b hn) (q2.rel.blk n b ((hG n h1).trans hn))
     exact this.mono ⟨Env.le.refl _, hzone', fun _ _ => rfl⟩ fun _ _ _ => rfl
    ·cases b <;> first | trivial | exact absurd rfl hl
   ·exact q2.rel.sep n m b d i j ((hG n (hll n b hn (live_of_own ho))).trans hn) ((hG m (hll m d hm' hl)).trans hm') hnm ho hl (q2.le _ _ hi) (q2.le _ _ hj) hin hjn
  have hstep : StepR E F2 w E F2 w' := ⟨Env.le.refl _, hrel, q2.os, q2.tape, q2.output, q2.size, q2.keep, fun n b i hn ho hi hin => q2.own n b i ((hG n (hll n b hn (live_of_own ho))).trans hn) ho (q2.le _ _ hi) hin⟩
  have hx := wk_vr q2.rel hm v0 v v' (hw F2) (fun n hn' b hb => by
   have := hn n hn'
   simp only [Fm] at hb
   rw [if_neg (by omega)] at hb; cases hb) q1
  have hy := VR.mono hEx _ _ (VR.nf v v' hf hx)
  exact ⟨E, VR.mono ⟨fun n i h => (by cases h), fun _ h => h, fun _ _ => rfl⟩ _ _ hy, hstep, fun n h1 h2 => absurd h1 h2⟩
 unfold Lands Sx.Lands at hL ⊢
 split at hL
 ·exact conv _ _ hL
 ·exact conv _ _ hL
 ·intro cs
  obtain ⟨e, w', fr, ⟨v', he, hK⟩, hrest⟩ := hL cs
  exact ⟨e, w', fr, ⟨v', he, conv _ _ hK⟩, hrest⟩
 ·exact hL
end Go.Tx
end
