/- Lemmas for the walk: YC33, YC49, YC50, YC51, YC52. -/
import Derived.Test.YtfhhbkehlfipgaaP13
import Derived.Test.YtfhhbkehlfipgaaP12
set_option linter.all false
section
namespace Go.Proofs.Ytfhhbkehlfipgaa
open Go.Tx
set_option maxRecDepth 100000
set_option maxHeartbeats 16000000
theorem okS {a : List Oper} {b : Nat} (h : okStatic a b = true) : okStatic a b = true := h
theorem indexFunc2_ok {F : SF} {L nx : Nat} (ps : List (Int × Int)) (g : FuncId) (fl cl : List PV) (p : Int × Int → Bool) (rd : List Nm) (hrd : ∀ n ∈ rd, n.l ≤ L) (hlen : ps.length ≤ 1000) (hcl : ∀ x ∈ ps, ∀ L' nx', L ≤ L' → Con Try.prog g (fl ++ [.agg (kE x)] ++ cl) F L' nx' nx' (.bool (p x)) [] rd) :
  Con Try.prog 86 [.fs 2 (ps.map kE), .fn (.func g) fl cl] F L nx nx (.int .i64 (idxI p ps)) [] rd := by
 refine bdy Try.f86 (hrd := hrd) ?_
 intro F3 hF1 hF2
 simp only [Try.f86, cx, go_sem, meths]
 refine loopK.intro _ _ (I := fun i : Nat => ⟨[some (.fs 2 (ps.map kE)), some (.fn (.func g) fl cl), none, none, none, none, none, some (.int .i64 ps.length), some (.int .i64 i), none, none, none, none, none, none, none, none, none, none], [], 10000 * (i + 1)⟩) (pre := fun i => i ≤ ps.length ∧ ∀ (j : Nat) (hj : j < ps.length), j < i → p ps[j] = false) (μ := fun i => ps.length - i) 0 ⟨by omega, by intro j _ h; omega⟩ ?_ ?_
 ·exact Sub.of (hfz hF2) (by simp only [go_sem, subT, and_self, List.length_map, Int.natCast_zero]) trivial trivial (by simp)
 ·rintro i ⟨hi, hp⟩
  by_cases hlt : i < ps.length
  ·have f1 : decide ((i : Int) < (ps.length : Int)) = true := dT (by omega)
   have r0 : (ps.map kE).getD i [] = kE ps[i] := by simp [hlt, List.getD_eq_getElem?_getD]
   simp only [f1, r0, kE, List.length_map, Nat.add_assoc, go_sem]
   repeat refine sd1 ?_
   have hc := hcl ps[i] (List.getElem_mem hlt) (L + 1) (10000 * (i + 1)) (by omega)
   simp only [kE] at hc hcl
   refine CallVC.same ((hcl ps[i] (List.getElem_mem hlt) _ _ (by omega)).agree hF1) ?_
   cases hpi : p ps[i]
   ·simp only [go_sem]
    refine ⟨⟨by omega, by omega⟩, i + 1, ⟨by omega, fun j hj hji => ?_⟩, by omega, Sub.of (hfz hF2) (by simp only [go_sem, subT, and_self, Int.natCast_succ]) trivial trivial (by simp only []; omega)⟩
    by_cases he : j = i
    ·subst he; exact hpi
    ·exact hp j hj (by omega)
   ·simp only [go_sem]
    exact .int (.inr rfl) rfl (idxI_stop hlt hp hpi).symm trivial
  ·have f1 : decide ((i : Int) < (ps.length : Int)) = false := dF (by omega)
   simp only [f1, go_sem]
   exact .int (.inr rfl) rfl (idxI_end (fun j hj => hp j hj (by omega))).symm trivial
theorem containsFunc2_ok {F : SF} {L nx : Nat} (ps : List (Int × Int)) (g : FuncId) (fl cl : List PV) (p : Int × Int → Bool) (rd : List Nm) (hrd : ∀ n ∈ rd, n.l ≤ L) (hlen : ps.length ≤ 1000) (hcl : ∀ x ∈ ps, ∀ L' nx', L ≤ L' → Con Try.prog g (fl ++ [.agg (kE x)] ++ cl) F L' nx' nx' (.bool (p x)) [] rd) :
  Con Try.prog 56 [.fs 2 (ps.map kE), .fn (.func g) fl cl] F L nx nx (.bool (ps.any p)) [] rd := by
 refine bdy Try.f56 (hrd := hrd) ?_
 intro F3 hF1 hF2
 simp only [Try.f56, cx, go_sem, meths]
 refine CallVC.same ((indexFunc2_ok ps g fl cl p rd (fun n hn => by have := hrd n hn; omega) hlen (fun x hx L' nx' hL => hcl x hx L' nx' (by omega))).agree hF1) ?_
 simp only [go_sem]
 exact .bool (.inr rfl) rfl (idxI_any p ps) trivial
theorem cut1_ok {F : SF} {L nx : Nat} (d : Dat) (a : Nm) (ha : a.l ≤ L) (ea : TypeId) (o p : Bool) (t : Int) (hF : F a = some (.rows ea 1 o p [[.int .i64 t]])) :
  Con Try.prog 89 [.agg d.row, .ptr a 0 0] F L nx nx (.bool (d.tsn == t)) [] [a] := by
 refine bdy Try.f89 (hrd := (by simpa using ha)) ?_
 intro F3 hF1 hF2
 have hF := (hF1 a (by simp)).trans hF
 have q1 := nm_out' ha
 have q2 := nm_out ha
 simp only [Try.f89, cx, Dat.row, hF, q2, Nat.add_zero, go_sem, meths]
 exact .bool (.inr rfl) rfl rfl (by simp [UpdAll])
theorem skip1_ok {F : SF} {L nx : Nat} (k : Int × Int) (a : Nm) (ha : a.l ≤ L) (ea : TypeId) (o p : Bool) (out parts num seen asked : PV) (inn : List Int) (hF : F a = some (.rows ea 6 o p [[out, .fs 1 (inn.map eI), parts, num, seen, asked]])) :
  Con Try.prog 57 [.agg (kE k), .ptr a 0 0] F L nx nx (.bool (decide ((inn.length : Int) ≤ k.1))) [] [a] := by
 refine bdy Try.f57 (hrd := (by simpa using ha)) ?_
 intro F3 hF1 hF2
 have hF := (hF1 a (by simp)).trans hF
 have q1 := nm_out' ha
 have q2 := nm_out ha
 simp only [Try.f57, cx, kE, hF, q2, List.length_map, Nat.add_zero, go_sem, meths]
 repeat refine sd1 ?_
 exact .bool (.inr rfl) rfl rfl (by simp [UpdAll])
theorem skip2_ok {F : SF} {L nx : Nat} (d : Dat) (hd : d.ok = true) (a b : Nm) (ha : a.l ≤ L) (hb : b.l ≤ L) (ea eb : TypeId) (oa ob pa pb : Bool) (cum : Int) (hc : 0 ≤ cum) (hc2 : cum < 4294967296) (sk : PV) (ns : List Int) (hns : ns.length ≤ 1000) (hF : F a = some (.rows ea 2 oa pa [[.int .i64 cum, sk]])) (hG : F b = some (.rows eb 1 ob pb [[.fs 1 (ns.map eI)]])) :
  Con Try.prog 60 [.agg d.row, .ptr a 0 0, .ptr b 0 0] F L nx nx (.bool (skB cum ns d)) [] [a, b] := by
 refine bdy Try.f60 (hrd := (by simp; omega)) ?_
 intro F3 hF1 hF2
 have hF := (hF1 a (by simp)).trans hF
 have hG := (hF1 b (by simp)).trans hG
 have q1 := nm_out' ha
 have q2 := nm_out ha
 have q3 := nm_out' hb
 have q4 := nm_out hb
 obtain ⟨w1, w2, w3, w4, w5, w6, w7, w8⟩ := Dat.ok_bounds hd
 unfold skB
 have h7 : ns.contains d.tsn = ns.any fun z => d.tsn == z := List.contains_eq_any_beq
 cases h2 : d.lo with
 | false =>
  simp only [Try.f60, cx, Dat.row, h2, go_sem, meths]
  repeat refine sd1 ?_
  exact .bool (.inr rfl) rfl rfl (by simp [UpdAll])
 | true =>
  simp only [Try.f60, cx, Dat.row, hF, q2, h2, Nat.add_zero, go_sem, meths]
  repeat refine sd1 ?_
  refine CallVC.same (lead_ok d.tsn cum 32 (by omega) (by omega) w1 w2 hc hc2) ?_
  cases h3 : decide (lead d.tsn cum 32 ≤ 0) with
  | false =>
   simp only [h3, go_sem]
   repeat refine sd1 ?_
   exact .bool (.inr rfl) rfl rfl (by simp [UpdAll])
  | true =>
   simp only [hG, q4, h3, Nat.add_zero, go_sem]
   repeat refine sd1 ?_
   refine CallVC.same (contains_ok ns d.tsn (by omega)) ?_
   simp only [go_sem]
   repeat refine sd1 ?_
   exact .bool (.inr rfl) rfl (by rw [show List.elem d.tsn ns = ns.contains d.tsn from rfl, h7]) (by simp [UpdAll])
structure Fl where
 d : Dat
 at_ : Int
 tr : Int
 mi : Int
 gap : Bool
 lost : Bool
 drp : Bool
def Fl.row (f : Fl) : List PV := [.int .i64 f.d.tsn, .int .i64 f.d.st, .int .i64 f.d.sq, .int .i64 f.d.pr, .bool f.d.fi, .bool f.d.la, .bool f.d.lo, .str f.d.pl, .int .i64 f.at_, .int .i64 f.tr, .int .i64 f.mi, .bool f.gap, .bool f.lost, .bool f.drp]
theorem rowF {l : List Fl} {i : Nat} (h : i < l.length) : (l.map Fl.row).getD i [] = (l[i]).row := by simp [h, List.getD_eq_getElem?_getD]
theorem indexFuncF_ok {F : SF} {L nx : Nat} (ps : List Fl) (g : FuncId) (fl cl : List PV) (p : Fl → Bool) (rd : List Nm) (hrd : ∀ n ∈ rd, n.l ≤ L) (hlen : ps.length ≤ 1000) (hcl : ∀ x ∈ ps, ∀ L' nx', L ≤ L' → Con Try.prog g (fl ++ [.agg x.row] ++ cl) F L' nx' nx' (.bool (p x)) [] rd) :
  Con Try.prog 95 [.fs 14 (ps.map Fl.row), .fn (.func g) fl cl] F L nx nx (.int .i64 (idxI p ps)) [] rd := by
 refine bdy Try.f95 (hrd := hrd) ?_
 intro F3 hF1 hF2
 simp only [Try.f95, cx, go_sem, meths]
 refine loopK.intro _ _ (I := fun i : Nat => ⟨[some (.fs 14 (ps.map Fl.row)), some (.fn (.func g) fl cl), none, none, none, none, none, some (.int .i64 ps.length), some (.int .i64 i), none, none, none, none, none, none, none, none, none, none], [], 10000 * (i + 1)⟩) (pre := fun i => i ≤ ps.length ∧ ∀ (j : Nat) (hj : j < ps.length), j < i → p ps[j] = false) (μ := fun i => ps.length - i) 0 ⟨by omega, by intro j _ h; omega⟩ ?_ ?_
 ·exact Sub.of (hfz hF2) (by simp only [go_sem, subT, and_self, List.length_map, Int.natCast_zero]) trivial trivial (by simp)
 ·rintro i ⟨hi, hp⟩
  by_cases hlt : i < ps.length
  ·have f1 : decide ((i : Int) < (ps.length : Int)) = true := dT (by omega)
   have r0 := rowF hlt
   simp only [f1, r0, Fl.row, List.length_map, Nat.add_assoc, go_sem]
   repeat refine sd2 ?_
   refine CallVC.same ((hcl ps[i] (List.getElem_mem hlt) _ _ (by omega)).agree hF1) ?_
   cases hpi : p ps[i]
   ·simp only [go_sem]
    refine ⟨⟨by omega, by omega⟩, i + 1, ⟨by omega, fun j hj hji => ?_⟩, by omega, Sub.of (hfz hF2) (by simp only [go_sem, subT, and_self, Int.natCast_succ]) trivial trivial (by simp only []; omega)⟩
    by_cases he : j = i
    ·subst he; exact hpi
    ·exact hp j hj (by omega)
   ·simp only [go_sem]
    exact .int (.inr rfl) rfl (idxI_stop hlt hp hpi).symm trivial
  ·have f1 : decide ((i : Int) < (ps.length : Int)) = false := dF (by omega)
   simp only [f1, go_sem]
   exact .int (.inr rfl) rfl (idxI_end (fun j hj => hp j hj (by omega))).symm trivial
theorem containsFuncF_ok {F : SF} {L nx : Nat} (ps : List Fl) (g : FuncId) (fl cl : List PV) (p : Fl → Bool) (rd : List Nm) (hrd : ∀ n ∈ rd, n.l ≤ L) (hlen : ps.length ≤ 1000) (hcl : ∀ x ∈ ps, ∀ L' nx', L ≤ L' → Con Try.prog g (fl ++ [.agg x.row] ++ cl) F L' nx' nx' (.bool (p x)) [] rd) :
  Con Try.prog 68 [.fs 14 (ps.map Fl.row), .fn (.func g) fl cl] F L nx nx (.bool (ps.any p)) [] rd := by
 refine bdy Try.f68 (hrd := hrd) ?_
 intro F3 hF1 hF2
 simp only [Try.f68, cx, go_sem, meths]
 refine CallVC.same ((indexFuncF_ok ps g fl cl p rd (fun n hn => by have := hrd n hn; omega) hlen (fun x hx L' nx' hL => hcl x hx L' nx' (by omega))).agree hF1) ?_
 simp only [go_sem]
 exact .bool (.inr rfl) rfl (idxI_any p ps) trivial
def keepB (f : Fl) : Bool := !f.gap && !f.drp
def givenB (lim : Int) (f : Fl) : Bool := keepB f && (decide (lim + 1 < f.tr) || (f.lost && decide (lim < f.tr)))
theorem given1_ok {F : SF} {L nx : Nat} (f : Fl) (a : Nm) (ha : a.l ≤ L) (ea : TypeId) (o p : Bool) (lim : Int) (h0 : -1 ≤ lim) (h1 : lim ≤ 14) (hF : F a = some (.rows ea 1 o p [[.int .i64 lim]])) :
    Con Try.prog 96 [.agg f.row, .ptr a 0 0] F L nx nx (.bool (givenB lim f)) [] [a] := by
  refine bdy Try.f96 (hrd := (by simpa using ha)) ?_
  intro F3 hF1 hF2
  have hF := (hF1 a (by simp)).trans hF
  have q1 := nm_out' ha
  have q2 := nm_out ha
  unfold givenB keepB
  cases hg : f.gap <;> cases hd : f.drp <;> cases hl : f.lost <;> cases ht : decide (lim + 1 < f.tr) <;> cases hu : decide (lim < f.tr) <;>
    (simp only [Try.f96, cx, Fl.row, hF, q2, hg, hd, hl, ht, hu, go_sem, meths]
     repeat refine sd2 ?_
     exact .bool (.inr rfl) rfl rfl (by simp [UpdAll]))
theorem given_ok {F : SF} {L nx : Nat} (ps : List Fl) (lim : Int) (h0 : -1 ≤ lim) (h1 : lim ≤ 14) (hlen : ps.length ≤ 1000) :
  Con Try.prog 70 [.fs 14 (ps.map Fl.row), .int .i64 lim] F L nx nx (.bool (decide (0 ≤ lim) && ps.any (givenB lim))) [] [] := by
 refine bdy Try.f70 ?_
 intro F3 hF1 hF2
 cases hd : decide (0 ≤ lim) with
 | false =>
  simp only [Try.f70, cx, hd, go_sem, meths]
  exact .bool (.inr rfl) rfl rfl (by simp [UpdAll])
 | true =>
  simp only [Try.f70, cx, hd, go_sem, meths]
  refine CallVC.same (containsFuncF_ok ps 96 [] [.ptr ⟨L + 1, 0⟩ 0 0] (givenB lim) [⟨L + 1, 0⟩] (by simp) hlen (fun x hx L' nx' hL => given1_ok x ⟨L + 1, 0⟩ hL 3 true true lim h0 h1 (by simp))) ?_
  simp only [go_sem]
  exact .bool (.inr rfl) rfl rfl (by simp [UpdAll])
def badL (x : Int) : Bool := decide (x < -1) || decide (14 < x)
def badF (n : Nat) (f : Fl) : Bool := decide (f.d.st < 0) || decide ((n : Int) ≤ f.d.st)
theorem drops1_ok {F : SF} {L nx : Nat} (x : Int) : Con Try.prog 67 [.int .i64 x] F L nx nx (.bool (badL x)) [] [] := by
  refine bdy Try.f67 ?_
  intro F3 hF1 hF2
  unfold badL
  cases h1 : decide (x < -1) <;> cases h2 : decide (14 < x) <;>
    (simp only [Try.f67, cx, h1, h2, go_sem, meths]
     exact .bool (.inr rfl) rfl rfl (by simp [UpdAll]))
theorem drops2_ok {F : SF} {L nx : Nat} (f : Fl) (a : Nm) (ha : a.l ≤ L) (ea : TypeId) (o p : Bool) (lims : List Int) (hF : F a = some (.rows ea 1 o p [[.fs 1 (lims.map eI)]])) :
    Con Try.prog 69 [.agg f.row, .ptr a 0 0] F L nx nx (.bool (badF lims.length f)) [] [a] := by
  refine bdy Try.f69 (hrd := (by simpa using ha)) ?_
  intro F3 hF1 hF2
  have hF := (hF1 a (by simp)).trans hF
  have q1 := nm_out' ha
  have q2 := nm_out ha
  unfold badF
  cases h1 : decide (f.d.st < 0) <;> cases h2 : decide ((lims.length : Int) ≤ f.d.st) <;>
    (simp only [Try.f69, cx, Fl.row, hF, q2, h1, h2, List.length_map, Nat.add_zero, go_sem, meths]
     repeat refine sd2 ?_
     exact .bool (.inr rfl) rfl rfl (by simp [UpdAll]))
def flZ : Fl := ⟨datZ, 0, 0, 0, false, false, false⟩
def dropTo (l : List Fl) (lims : List Int) (out : List Int) : List Int :=
 let lim := lims.getD (l.getD 0 flZ).d.st.toNat 0
 if decide (0 ≤ lim) && l.any (givenB lim) then out ++ (l.filter keepB).map (fun f => f.d.tsn) else out
def dropStep (fls : List Fl) (lims : List Int) (z : Int × List Int) (k : Nat) : Int × List Int :=
 let f := fls.getD k flZ
 let fr := if f.d.fi then (k : Int) else z.1
 if !f.d.la || decide (fr < 0) then (fr, z.2)
 else (-1, dropTo ((fls.drop fr.toNat).take (k + 1 - fr.toNat)) lims z.2)
def dropsZ (fls : List Fl) (lims : List Int) (k : Nat) : Int × List Int := (List.range k).foldl (dropStep fls lims) (-1, [])
def dropsL (fls : List Fl) (lims : List Int) : List Int := (dropsZ fls lims fls.length).2
theorem dropsZ_succ (fls : List Fl) (lims : List Int) (k : Nat) : dropsZ fls lims (k + 1) = dropStep fls lims (dropsZ fls lims k) k := by
 unfold dropsZ
 rw [List.range_succ, List.foldl_append]; rfl
def outJ (out : List Int) (l : List Fl) (j : Nat) : List Int := out ++ ((l.take j).filter keepB).map (fun f => f.d.tsn)
theorem outJ_zero (out : List Int) (l : List Fl) : outJ out l 0 = out := by simp [outJ]
theorem outJ_len (out : List Int) (l : List Fl) (j : Nat) : (outJ out l j).length ≤ out.length + j := by
 have := List.length_filter_le keepB (l.take j)
 simp only [outJ, List.length_append, List.length_map]
 have := List.length_take_le j l
 omega
theorem outJ_succ (out : List Int) (l : List Fl) (j : Nat) (h : j < l.length) : outJ out l (j + 1) = outJ out l j ++ (if keepB l[j] then [l[j].d.tsn] else []) := by
 simp only [outJ]
 rw [List.take_add_one, List.getElem?_eq_getElem h, List.filter_append, List.map_append, List.append_assoc]
 congr 2
 by_cases hk : keepB l[j] = true <;> simp [hk]
structure DrZ where
 k : Nat
 i : Nat
 q : Nat
 fr : Int
 out : List Int
structure DrY where
 j : Nat
 i : Nat
 q : Nat
theorem drops_ok {F : SF} {L nx : Nat} (fls : List Fl) (lims : List Int) (h1 : fls.length ≤ 30) (h2 : lims.length ≤ 16) (h3 : lims.any badL = false) (h4 : fls.any (badF lims.length) = false) :
  Con Try.prog 34 [.fs 14 (fls.map Fl.row), .fs 1 (lims.map eI)] F L nx nx (.tup [.fs 1 ((dropsL fls lims).map eI), .int .i64 0]) [] [] := by
 have f0 : decide ((-1 : Int) < 0) = true := rfl
 have g1 : decide ((30 : Int) < (fls.length : Int)) = false := dF (by omega)
 have g2 : decide ((16 : Int) < (lims.length : Int)) = false := dF (by omega)
 have hlim : ∀ x ∈ lims, -1 ≤ x ∧ x ≤ 14 := by
  intro x hx
  rw [List.any_eq_false] at h3
  have := h3 x hx
  simp [badL] at this; omega
 have hst : ∀ f ∈ fls, 0 ≤ f.d.st ∧ f.d.st < lims.length := by
  intro f hf
  rw [List.any_eq_false] at h4
  have := h4 f hf
  simp [badF] at this; omega
 refine bdy Try.f34 ?_
 intro F3 hF1 hF2
 simp only [Try.f34, cx, g1, g2, List.length_map, go_sem, meths]
 refine CallVC.same (containsFunc_ok lims 67 [] [] badL [] (by simp) (by omega) (fun x hx L' nx' hL => drops1_ok x)) ?_
 simp only [h3, go_sem]
 refine CallVC.same (containsFuncF_ok fls 69 [] [.ptr ⟨L + 1, 0⟩ 0 0] (badF lims.length) [⟨L + 1, 0⟩] (by simp) (by omega) (fun x hx L' nx' hL => drops2_ok x ⟨L + 1, 0⟩ hL 31 true true lims (by simp))) ?_
 simp only [h4, List.length_map, go_sem]
 refine loopK.intro _ _ (I := fun z : DrZ => ⟨[some (.fs 14 (fls.map Fl.row)), none, none, some (.ptr ⟨L + 1, 0⟩ 0 0), none, none, some (.sl ⟨L + 1, z.q⟩ 0 z.out.length), some (.int .i64 z.fr), none, none, none, none, none, none, none, none, none, none, none, none, none, none, none, none, none, none, none, none, some (.fs 14 (fls.map Fl.row)), some (.int .i64 fls.length), some (.int .i64 z.k), none, none, none, none, none, none, none, none, none, none, none, none, none, none, none, none, none, none, none, none, none, none, none, none, none, none, none, none, none, none, none, none, none, none, none, none, none, none, none, none, none, none, none, none, none, none, none, none, none, none, none, none, none, none],
  [(⟨L + 1, 0⟩, .rows 31 1 true true [[.fs 1 (lims.map eI)]]), (⟨L + 1, z.q⟩, .rows 3 1 true true (z.out.map eI))], 10000 * (z.i + 1)⟩)
  (pre := fun z => z.k ≤ fls.length ∧ -1 ≤ z.fr ∧ z.fr < z.k ∧ (z.fr, z.out) = dropsZ fls lims z.k ∧ z.out.length ≤ 31 * z.k ∧ 100 ≤ z.q ∧ z.q < 10000 * (z.i + 1)) (μ := fun z => fls.length - z.k) ⟨0, 0, 672, -1, []⟩ ⟨by simp, by simp, by simp, rfl, by simp, by simp, by simp⟩ ?_ ?_
 ·refine Sub.trans (Sub.nilName 6 3 (wd := 1) (by omega) rfl) ?_
  refine Sub.of (hfz hF2) (by simp only [go_sem, subT, and_self, Int.natCast_zero]) ?_ (by simp [subK, keys, updH, setH]) (by simp)
  simp [subH, Tx.look, updH, setH]
 ·rintro ⟨k, i, q, fr, out⟩ ⟨e1, e2, e3, e4, e5, k1, k2⟩
  simp only at e1 e2 e3 e4 e5 k1 k2 ⊢
  have q_0 : (q = 0) = False := by apply eq_false; omega
  have n0_q : (0 = q) = False := by apply eq_false; omega
  have q_n1 : ∀ kk, (10000 * (i + 1) + kk = q) = False := fun kk => by apply eq_false; omega
  have q_n2 : ∀ kk, (q = 10000 * (i + 1) + kk) = False := fun kk => by apply eq_false; omega
  have q_n3 : (10000 * (i + 1) = q) = False := by apply eq_false; omega
  have q_n4 : (q = 10000 * (i + 1)) = False := by apply eq_false; omega
  have q_n5 : ∀ kk, ((⟨L + 1, q⟩ : Nm) == ⟨L + 1, 10000 * (i + 1) + kk⟩) = false := fun kk => by simp; omega
  by_cases hlt : k < fls.length
  ·have c1 : decide ((k : Int) < (fls.length : Int)) = true := dT (by omega)
   have r0 := rowF hlt
   obtain ⟨f, hf⟩ : ∃ f, f = fls[k] := ⟨_, rfl⟩
   have hfd : fls.getD k flZ = f := by rw [hf]; simp [List.getD_eq_getElem?_getD, hlt]
   rw [← hf] at r0
   have hz := dropsZ_succ fls lims k
   rw [← e4] at hz
   unfold dropStep at hz
   simp only [hfd] at hz
   cases hfi : f.d.fi with
   | true =>
    have hfn : decide ((k : Int) < 0) = false := dF (by omega)
    simp only [hfi, if_true, hfn, Bool.or_false] at hz
    cases hla : f.d.la with
    | false =>
     simp only [hla, Bool.not_false, if_true] at hz
     simp only [c1, hfi, hla, r0, Fl.row, Int.toNat_natCast, List.length_map, q_n1, Nat.add_assoc, Nat.add_zero, go_sem]
     repeat refine sd2 ?_
     refine ⟨⟨k + 1, i + 1, q, k, out⟩, ⟨by simp only []; omega, by simp only []; omega, by simp only []; omega, hz.symm, by simp only []; omega, k1, by simp only []; omega⟩, by simp only []; omega, ?_⟩
     refine Sub.o hF2 ?_
     simp [subH, Tx.look, q_0]
    | true =>
     simp only [hla, Bool.not_true, if_false, Bool.false_eq_true] at hz
     simp only [Int.toNat_natCast] at hz
     have hmk : k ≤ k := by omega
     obtain ⟨l, hl⟩ : ∃ l, l = (fls.drop k).take (k + 1 - k) := ⟨_, rfl⟩
     rw [← hl] at hz
     have hll : l.length = k + 1 - k := by rw [hl]; simp; omega
     have hsub : ∀ x ∈ l, x ∈ fls := by
      intro x hx
      rw [hl] at hx
      exact List.mem_of_mem_drop (List.mem_of_mem_take hx)
     have hl0 : l.getD 0 flZ ∈ fls := by
      rw [List.getD_eq_getElem?_getD, List.getElem?_eq_getElem (by omega), Option.getD_some]
      exact hsub _ (List.getElem_mem _)
     obtain ⟨y, hy⟩ : ∃ y, y = l.getD 0 flZ := ⟨_, rfl⟩
     rw [← hy] at hl0
     have hys := hst y hl0
     have ek : ((k : Int) + 1).toNat = k + 1 := by omega
     have etl : List.take (k + 1 - k) (List.drop k (fls.map Fl.row)) = l.map Fl.row := by rw [hl, List.map_take, List.map_drop]
     have ry : (l.map Fl.row).getD 0 [] = y.row := by
      rw [hy, List.getD_eq_getElem?_getD, List.getElem?_map, List.getD_eq_getElem?_getD, List.getElem?_eq_getElem (by omega)]; rfl
     have rl := getD_eI lims (i := y.d.st.toNat) (by omega)
     obtain ⟨lim, hlm⟩ : ∃ x, x = lims.getD y.d.st.toNat 0 := ⟨_, rfl⟩
     have hto : dropTo l lims out = if decide (0 ≤ lim) && l.any (givenB lim) then out ++ (l.filter keepB).map (fun f => f.d.tsn) else out := by rw [hlm, hy]; rfl
     rw [← hlm] at rl
     have hlb : -1 ≤ lim ∧ lim ≤ 14 := hlim lim (by rw [hlm, List.getD_eq_getElem?_getD, List.getElem?_eq_getElem (by omega)]; simp)
     simp only [Fl.row] at ry
     simp only [c1, hfi, hla, hfn, ek, etl, ry, rl, eI, hll, r0, Fl.row, Int.toNat_natCast, List.length_map, n0_q, q_n1, Nat.add_assoc, Nat.add_zero, go_sem]
     repeat refine sd2 ?_
     refine CallVC.same (given_ok l lim hlb.1 hlb.2 (by omega)) ?_
     cases hgi : decide (0 ≤ lim) && l.any (givenB lim) with
     | false =>
      rw [hgi] at hto
      simp only [if_false, Bool.false_eq_true] at hto
      rw [hto] at hz
      simp only [Nat.add_assoc, go_sem]
      refine ⟨okDyn_num (fun _ => 0) (by simp only [numF, List.map]; kernel_rfl), ⟨by omega, by omega⟩, ⟨k + 1, i + 1, q, -1, out⟩, ⟨by simp only []; omega, by simp only []; omega, by simp only []; omega, hz.symm, by simp only []; omega, k1, by simp only []; omega⟩, by simp only []; omega, ?_⟩
      refine Sub.o hF2 ?_
      simp [subH, Tx.look, q_0]
     | true =>
      rw [hgi] at hto
      simp only [if_true] at hto
      rw [hto] at hz
      simp only [List.length_map, Nat.add_assoc, go_sem]
      refine ⟨okDyn_num (fun _ => 0) (by simp only [numF, List.map]; kernel_rfl), ?_⟩
      refine loopK.intro _ _ (I := fun z : DrY => ⟨[some (.fs 14 (fls.map Fl.row)), none, none, some (.ptr ⟨L + 1, 0⟩ 0 0), none, none, some (.sl ⟨L + 1, z.q⟩ 0 (outJ out l z.j).length), none, none, none, none, none, none, none, none, none, none, none, none, none, none, none, none, none, none, none, none, none, some (.fs 14 (fls.map Fl.row)), some (.int .i64 fls.length), some (.int .i64 k), none, none, none, none, none, none, none, none, none, none, none, none, none, none, none, none, none, none, none, none, none, none, none, none, none, none, none, none, none, none, none, some (.fs 14 (l.map Fl.row)), some (.int .i64 l.length), some (.int .i64 z.j), none, none, none, none, none, none, none, none, none, none, none, none, none, none, none, none, none, none, none, none],
       [(⟨L + 1, 0⟩, .rows 31 1 true true [[.fs 1 (lims.map eI)]]), (⟨L + 1, z.q⟩, .rows 3 1 true true ((outJ out l z.j).map eI))], 10000 * (z.i + 1)⟩)
       (pre := fun z => z.j ≤ l.length ∧ 100 ≤ z.q ∧ z.q < 10000 * (z.i + 1)) (μ := fun z => l.length - z.j) ⟨0, i + 1, q⟩ ⟨by simp, k1, by simp only []; omega⟩ ?_ ?_
      ·refine Sub.of (hfz hF2) (by simp only [go_sem, subT, and_self, outJ_zero, Int.natCast_zero]) ?_ (by simp [subK, keys]) (by simp only []; omega)
       simp [subH, Tx.look, outJ_zero, q_0]
      ·clear q_n1 q_n2 q_n3 q_n4 q_n5 q_0 n0_q k1 k2
       clear i q
       rintro ⟨j, i, q⟩ ⟨d1, k1, k2⟩
       simp only at d1 k1 k2 ⊢
       have q_0 : (q = 0) = False := by apply eq_false; omega
       have n0_q : (0 = q) = False := by apply eq_false; omega
       have q_n1 : ∀ kk, (10000 * (i + 1) + kk = q) = False := fun kk => by apply eq_false; omega
       have q_n2 : ∀ kk, (q = 10000 * (i + 1) + kk) = False := fun kk => by apply eq_false; omega
       have q_n3 : (10000 * (i + 1) = q) = False := by apply eq_false; omega
       have q_n4 : (q = 10000 * (i + 1)) = False := by apply eq_false; omega
       have q_n5 : ∀ kk, ((⟨L + 1, q⟩ : Nm) == ⟨L + 1, 10000 * (i + 1) + kk⟩) = false := fun kk => by simp; omega
       have hol := outJ_len out l j
       by_cases hjt : j < l.length
       ·have c2 : decide ((j : Int) < (l.length : Int)) = true := dT (by omega)
        have r2 := rowF hjt
        obtain ⟨x, hx⟩ : ∃ x, x = l[j] := ⟨_, rfl⟩
        have hsu := outJ_succ out l j hjt
        rw [← hx] at r2 hsu
        cases hxg : x.gap with
        | true =>
         have hsu : outJ out l (j + 1) = outJ out l j := by rw [hsu]; simp [keepB, hxg]
         simp only [c2, r2, Fl.row, hxg, List.length_map, q_n1, Nat.add_assoc, go_sem]
         repeat refine sd2 ?_
         refine ⟨⟨j + 1, i + 1, q⟩, ⟨by simp only []; omega, k1, by simp only []; omega⟩, by simp only []; omega, ?_⟩
         refine Sub.of (hfz hF2) (by simp only [hsu, go_sem, subT, and_self, Int.natCast_succ]) ?_ (by simp [subK, keys]) (by simp only []; omega)
         simp [subH, Tx.look, hsu, q_0]
        | false =>
         cases hxd : x.drp with
         | true =>
          have hsu : outJ out l (j + 1) = outJ out l j := by rw [hsu]; simp [keepB, hxg, hxd]
          simp only [c2, r2, Fl.row, hxg, hxd, List.length_map, q_n1, Nat.add_assoc, go_sem]
          repeat refine sd2 ?_
          refine ⟨⟨j + 1, i + 1, q⟩, ⟨by simp only []; omega, k1, by simp only []; omega⟩, by simp only []; omega, ?_⟩
          refine Sub.of (hfz hF2) (by simp only [hsu, go_sem, subT, and_self, Int.natCast_succ]) ?_ (by simp [subK, keys]) (by simp only []; omega)
          simp [subH, Tx.look, hsu, q_0]
         | false =>
          have hsu : outJ out l (j + 1) = outJ out l j ++ [x.d.tsn] := by rw [hsu]; simp [keepB, hxg, hxd]
          simp only [c2, r2, Fl.row, hxg, hxd, List.length_map, q_0, q_n1, q_n2, q_n5, nS2, Nat.add_assoc, Nat.add_zero, go_sem]
          repeat refine sd2 ?_
          have hl1 : (outJ out l (j + 1)).length = (outJ out l j).length + 1 := by rw [hsu]; simp
          have hme : (outJ out l (j + 1)).map eI = (outJ out l j).map eI ++ [[.int .i64 x.d.tsn]] := by rw [hsu]; simp [eI]
          refine ⟨⟨j + 1, i + 1, 10000 * (i + 1) + 576⟩, ⟨by simp only []; omega, by simp only []; omega, by simp only []; omega⟩, by simp only []; omega, ?_⟩
          refine Sub.of (hfz hF2) (by simp only [hl1, go_sem, subT, and_self, Int.natCast_succ]) ?_ (by simp [subK, keys]) (by simp only []; omega)
          simp [subH, Tx.look, hme, q_n1, nB]
       ·have c2 : decide ((j : Int) < (l.length : Int)) = false := dF (by omega)
        have e : j = l.length := by omega
        have hfin : outJ out l j = out ++ (l.filter keepB).map (fun f => f.d.tsn) := by rw [e, outJ, List.take_length]
        rw [← hfin] at hz
        have hlb2 : (outJ out l j).length ≤ 31 * (k + 1) := by omega
        simp only [c2, Nat.add_assoc, go_sem]
        repeat refine sd2 ?_
        refine ⟨⟨k + 1, i + 1, q, -1, outJ out l j⟩, ⟨by simp only []; omega, by simp only []; omega, by simp only []; omega, hz.symm, hlb2, k1, by simp only []; omega⟩, by simp only []; omega, ?_⟩
        refine Sub.o hF2 ?_
        simp [subH, Tx.look, q_0]
   | false =>
    simp only [hfi, if_false, Bool.false_eq_true] at hz
    cases hla : f.d.la with
    | false =>
     simp only [hla, Bool.not_false, Bool.true_or, if_true] at hz
     simp only [c1, hfi, hla, r0, Fl.row, Int.toNat_natCast, List.length_map, q_n1, Nat.add_assoc, Nat.add_zero, go_sem]
     repeat refine sd2 ?_
     refine ⟨⟨k + 1, i + 1, q, fr, out⟩, ⟨by simp only []; omega, by simp only []; omega, by simp only []; omega, hz.symm, by simp only []; omega, k1, by simp only []; omega⟩, by simp only []; omega, ?_⟩
     refine Sub.o hF2 ?_
     simp [subH, Tx.look, q_0]
    | true =>
     simp only [hla, Bool.not_true, Bool.false_or] at hz
     cases hfn : decide (fr < 0) with
     | true =>
      simp only [hfn, if_true] at hz
      simp only [c1, hfi, hla, hfn, r0, Fl.row, Int.toNat_natCast, List.length_map, q_n1, Nat.add_assoc, Nat.add_zero, go_sem]
      repeat refine sd2 ?_
      refine ⟨⟨k + 1, i + 1, q, fr, out⟩, ⟨by simp only []; omega, by simp only []; omega, by simp only []; omega, hz.symm, by simp only []; omega, k1, by simp only []; omega⟩, by simp only []; omega, ?_⟩
      refine Sub.o hF2 ?_
      simp [subH, Tx.look, q_0]
     | false =>
      simp only [hfn, if_false, Bool.false_eq_true] at hz
      obtain ⟨m, hm⟩ : ∃ m : Nat, fr = m := ⟨fr.toNat, by simp at hfn; omega⟩
      subst hm
      simp only [Int.toNat_natCast] at hz
      have hmk : m ≤ k := by omega
      obtain ⟨l, hl⟩ : ∃ l, l = (fls.drop m).take (k + 1 - m) := ⟨_, rfl⟩
      rw [← hl] at hz
      have hll : l.length = k + 1 - m := by rw [hl]; simp; omega
      have hsub : ∀ x ∈ l, x ∈ fls := by
       intro x hx
       rw [hl] at hx
       exact List.mem_of_mem_drop (List.mem_of_mem_take hx)
      have hl0 : l.getD 0 flZ ∈ fls := by
       rw [List.getD_eq_getElem?_getD, List.getElem?_eq_getElem (by omega), Option.getD_some]
       exact hsub _ (List.getElem_mem _)
      obtain ⟨y, hy⟩ : ∃ y, y = l.getD 0 flZ := ⟨_, rfl⟩
      rw [← hy] at hl0
      have hys := hst y hl0
      have ek : ((k : Int) + 1).toNat = k + 1 := by omega
      have etl : List.take (k + 1 - m) (List.drop m (fls.map Fl.row)) = l.map Fl.row := by rw [hl, List.map_take, List.map_drop]
      have ry : (l.map Fl.row).getD 0 [] = y.row := by
       rw [hy, List.getD_eq_getElem?_getD, List.getElem?_map, List.getD_eq_getElem?_getD, List.getElem?_eq_getElem (by omega)]; rfl
      have rl := getD_eI lims (i := y.d.st.toNat) (by omega)
      obtain ⟨lim, hlm⟩ : ∃ x, x = lims.getD y.d.st.toNat 0 := ⟨_, rfl⟩
      have hto : dropTo l lims out = if decide (0 ≤ lim) && l.any (givenB lim) then out ++ (l.filter keepB).map (fun f => f.d.tsn) else out := by rw [hlm, hy]; rfl
      rw [← hlm] at rl
      have hlb : -1 ≤ lim ∧ lim ≤ 14 := hlim lim (by rw [hlm, List.getD_eq_getElem?_getD, List.getElem?_eq_getElem (by omega)]; simp)
      simp only [Fl.row] at ry
      simp only [c1, hfi, hla, hfn, ek, etl, ry, rl, eI, hll, r0, Fl.row, Int.toNat_natCast, List.length_map, n0_q, q_n1, Nat.add_assoc, Nat.add_zero, go_sem]
      repeat refine sd2 ?_
      refine CallVC.same (given_ok l lim hlb.1 hlb.2 (by omega)) ?_
      cases hgi : decide (0 ≤ lim) && l.any (givenB lim) with
      | false =>
       rw [hgi] at hto
       simp only [if_false, Bool.false_eq_true] at hto
       rw [hto] at hz
       simp only [Nat.add_assoc, go_sem]
       refine ⟨okDyn_num (fun _ => 0) (by simp only [numF, List.map]; kernel_rfl), ⟨by omega, by omega⟩, ⟨k + 1, i + 1, q, -1, out⟩, ⟨by simp only []; omega, by simp only []; omega, by simp only []; omega, hz.symm, by simp only []; omega, k1, by simp only []; omega⟩, by simp only []; omega, ?_⟩
       refine Sub.o hF2 ?_
       simp [subH, Tx.look, q_0]
      | true =>
       rw [hgi] at hto
       simp only [if_true] at hto
       rw [hto] at hz
       simp only [List.length_map, Nat.add_assoc, go_sem]
       refine ⟨okDyn_num (fun _ => 0) (by simp only [numF, List.map]; kernel_rfl), ?_⟩
       refine loopK.intro _ _ (I := fun z : DrY => ⟨[some (.fs 14 (fls.map Fl.row)), none, none, some (.ptr ⟨L + 1, 0⟩ 0 0), none, none, some (.sl ⟨L + 1, z.q⟩ 0 (outJ out l z.j).length), none, none, none, none, none, none, none, none, none, none, none, none, none, none, none, none, none, none, none, none, none, some (.fs 14 (fls.map Fl.row)), some (.int .i64 fls.length), some (.int .i64 k), none, none, none, none, none, none, none, none, none, none, none, none, none, none, none, none, none, none, none, none, none, none, none, none, none, none, none, none, none, none, none, some (.fs 14 (l.map Fl.row)), some (.int .i64 l.length), some (.int .i64 z.j), none, none, none, none, none, none, none, none, none, none, none, none, none, none, none, none, none, none, none, none],
        [(⟨L + 1, 0⟩, .rows 31 1 true true [[.fs 1 (lims.map eI)]]), (⟨L + 1, z.q⟩, .rows 3 1 true true ((outJ out l z.j).map eI))], 10000 * (z.i + 1)⟩)
        (pre := fun z => z.j ≤ l.length ∧ 100 ≤ z.q ∧ z.q < 10000 * (z.i + 1)) (μ := fun z => l.length - z.j) ⟨0, i + 1, q⟩ ⟨by simp, k1, by simp only []; omega⟩ ?_ ?_
       ·refine Sub.of (hfz hF2) (by simp only [go_sem, subT, and_self, outJ_zero, Int.natCast_zero]) ?_ (by simp [subK, keys]) (by simp only []; omega)
        simp [subH, Tx.look, outJ_zero, q_0]
       ·clear q_n1 q_n2 q_n3 q_n4 q_n5 q_0 n0_q k1 k2
        clear i q
        rintro ⟨j, i, q⟩ ⟨d1, k1, k2⟩
        simp only at d1 k1 k2 ⊢
        have q_0 : (q = 0) = False := by apply eq_false; omega
        have n0_q : (0 = q) = False := by apply eq_false; omega
        have q_n1 : ∀ kk, (10000 * (i + 1) + kk = q) = False := fun kk => by apply eq_false; omega
        have q_n2 : ∀ kk, (q = 10000 * (i + 1) + kk) = False := fun kk => by apply eq_false; omega
        have q_n3 : (10000 * (i + 1) = q) = False := by apply eq_false; omega
        have q_n4 : (q = 10000 * (i + 1)) = False := by apply eq_false; omega
        have q_n5 : ∀ kk, ((⟨L + 1, q⟩ : Nm) == ⟨L + 1, 10000 * (i + 1) + kk⟩) = false := fun kk => by simp; omega
        have hol := outJ_len out l j
        by_cases hjt : j < l.length
        ·have c2 : decide ((j : Int) < (l.length : Int)) = true := dT (by omega)
         have r2 := rowF hjt
         obtain ⟨x, hx⟩ : ∃ x, x = l[j] := ⟨_, rfl⟩
         have hsu := outJ_succ out l j hjt
         rw [← hx] at r2 hsu
         cases hxg : x.gap with
         | true =>
          have hsu : outJ out l (j + 1) = outJ out l j := by rw [hsu]; simp [keepB, hxg]
          simp only [c2, r2, Fl.row, hxg, List.length_map, q_n1, Nat.add_assoc, go_sem]
          repeat refine sd2 ?_
          refine ⟨⟨j + 1, i + 1, q⟩, ⟨by simp only []; omega, k1, by simp only []; omega⟩, by simp only []; omega, ?_⟩
          refine Sub.of (hfz hF2) (by simp only [hsu, go_sem, subT, and_self, Int.natCast_succ]) ?_ (by simp [subK, keys]) (by simp only []; omega)
          simp [subH, Tx.look, hsu, q_0]
         | false =>
          cases hxd : x.drp with
          | true =>
           have hsu : outJ out l (j + 1) = outJ out l j := by rw [hsu]; simp [keepB, hxg, hxd]
           simp only [c2, r2, Fl.row, hxg, hxd, List.length_map, q_n1, Nat.add_assoc, go_sem]
           repeat refine sd2 ?_
           refine ⟨⟨j + 1, i + 1, q⟩, ⟨by simp only []; omega, k1, by simp only []; omega⟩, by simp only []; omega, ?_⟩
           refine Sub.of (hfz hF2) (by simp only [hsu, go_sem, subT, and_self, Int.natCast_succ]) ?_ (by simp [subK, keys]) (by simp only []; omega)
           simp [subH, Tx.look, hsu, q_0]
          | false =>
           have hsu : outJ out l (j + 1) = outJ out l j ++ [x.d.tsn] := by rw [hsu]; simp [keepB, hxg, hxd]
           simp only [c2, r2, Fl.row, hxg, hxd, List.length_map, q_0, q_n1, q_n2, q_n5, nS2, Nat.add_assoc, Nat.add_zero, go_sem]
           repeat refine sd2 ?_
           have hl1 : (outJ out l (j + 1)).length = (outJ out l j).length + 1 := by rw [hsu]; simp
           have hme : (outJ out l (j + 1)).map eI = (outJ out l j).map eI ++ [[.int .i64 x.d.tsn]] := by rw [hsu]; simp [eI]
           refine ⟨⟨j + 1, i + 1, 10000 * (i + 1) + 576⟩, ⟨by simp only []; omega, by simp only []; omega, by simp only []; omega⟩, by simp only []; omega, ?_⟩
           refine Sub.of (hfz hF2) (by simp only [hl1, go_sem, subT, and_self, Int.natCast_succ]) ?_ (by simp [subK, keys]) (by simp only []; omega)
           simp [subH, Tx.look, hme, q_n1, nB]
        ·have c2 : decide ((j : Int) < (l.length : Int)) = false := dF (by omega)
         have e : j = l.length := by omega
         have hfin : outJ out l j = out ++ (l.filter keepB).map (fun f => f.d.tsn) := by rw [e, outJ, List.take_length]
         rw [← hfin] at hz
         have hlb2 : (outJ out l j).length ≤ 31 * (k + 1) := by omega
         simp only [c2, Nat.add_assoc, go_sem]
         repeat refine sd2 ?_
         refine ⟨⟨k + 1, i + 1, q, -1, outJ out l j⟩, ⟨by simp only []; omega, by simp only []; omega, by simp only []; omega, hz.symm, hlb2, k1, by simp only []; omega⟩, by simp only []; omega, ?_⟩
         refine Sub.o hF2 ?_
         simp [subH, Tx.look, q_0]
  ·have c1 : decide ((k : Int) < (fls.length : Int)) = false := dF (by omega)
   have e : k = fls.length := by omega
   have ed : dropsL fls lims = out := by unfold dropsL; rw [← e, ← e4]
   rw [ed]
   simp only [c1, Nat.add_assoc, go_sem]
   repeat refine sd2 ?_
   exact PostF.rs (v0 := .tup [.sl ⟨L + 1, q⟩ 0 out.length, .int .i64 0] ) (.inr rfl) (hw := by simp [Wk, WkL, Tx.look, List.take_of_length_le, q_0])
end Go.Proofs.Ytfhhbkehlfipgaa
end
section
namespace Go.Proofs.Ytfhhbkehlfipgaa
open Go.Tx
set_option maxRecDepth 100000
set_option maxHeartbeats 16000000
end Go.Proofs.Ytfhhbkehlfipgaa
end
section
namespace Go.Proofs.Ytfhhbkehlfipgaa
open Go.Tx
set_option maxRecDepth 100000
set_option maxHeartbeats 16000000
def dropsR (fls : List Fl) (lims : List Int) : List Int × Int :=
 if decide (30 < fls.length) || decide (16 < lims.length) then ([], 3)
 else if lims.any badL || fls.any (badF lims.length) then ([], 2)
 else (dropsL fls lims, 0)
theorem dropsAll_ok {F : SF} {L nx : Nat} (fls : List Fl) (lims : List Int) (h1 : fls.length ≤ 1000) (h2 : lims.length ≤ 1000) :
  Con Try.prog 34 [.fs 14 (fls.map Fl.row), .fs 1 (lims.map eI)] F L nx nx (.tup [.fs 1 ((dropsR fls lims).1.map eI), .int .i64 (dropsR fls lims).2]) [] [] := by
 by_cases hl : 30 < fls.length
 ·have e : dropsR fls lims = ([], 3) := by unfold dropsR; rw [if_pos (by simp [hl])]
  rw [e]
  have g1 : decide ((30 : Int) < (fls.length : Int)) = true := dT (by omega)
  refine bdy Try.f34 ?_
  intro F3 hF1 hF2
  simp only [Try.f34, cx, g1, List.length_map, go_sem, meths]
  exact PostF.rs (v0 := .tup [.nilS, .int .i64 3]) (.inr rfl)
 ·have g1 : decide ((30 : Int) < (fls.length : Int)) = false := dF (by omega)
  by_cases hm : 16 < lims.length
  ·have e : dropsR fls lims = ([], 3) := by unfold dropsR; rw [if_pos (by simp [hm])]
   rw [e]
   have g2 : decide ((16 : Int) < (lims.length : Int)) = true := dT (by omega)
   refine bdy Try.f34 ?_
   intro F3 hF1 hF2
   simp only [Try.f34, cx, g1, g2, List.length_map, go_sem, meths]
   exact PostF.rs (v0 := .tup [.nilS, .int .i64 3]) (.inr rfl)
  ·have g2 : decide ((16 : Int) < (lims.length : Int)) = false := dF (by omega)
   have e0 : dropsR fls lims = if lims.any badL || fls.any (badF lims.length) then ([], 2) else (dropsL fls lims, 0) := by
    unfold dropsR; rw [if_neg (by simp; omega)]
   cases h3 : lims.any badL with
   | true =>
    have e : dropsR fls lims = ([], 2) := by rw [e0, h3]; rfl
    rw [e]
    refine bdy Try.f34 ?_
    intro F3 hF1 hF2
    simp only [Try.f34, cx, g1, g2, List.length_map, go_sem, meths]
    refine CallVC.same (containsFunc_ok lims 67 [] [] badL [] (by simp) (by omega) (fun x hx L' nx' hL => drops1_ok x)) ?_
    simp only [h3, go_sem]
    exact PostF.rs (v0 := .tup [.nilS, .int .i64 2]) (.inr rfl)
   | false =>
    cases h4 : fls.any (badF lims.length) with
    | true =>
     have e : dropsR fls lims = ([], 2) := by rw [e0, h3, h4]; rfl
     rw [e]
     refine bdy Try.f34 ?_
     intro F3 hF1 hF2
     simp only [Try.f34, cx, g1, g2, List.length_map, go_sem, meths]
     refine CallVC.same (containsFunc_ok lims 67 [] [] badL [] (by simp) (by omega) (fun x hx L' nx' hL => drops1_ok x)) ?_
     simp only [h3, go_sem]
     refine CallVC.same (containsFuncF_ok fls 69 [] [.ptr ⟨L + 1, 0⟩ 0 0] (badF lims.length) [⟨L + 1, 0⟩] (by simp) (by omega) (fun x hx L' nx' hL => drops2_ok x ⟨L + 1, 0⟩ hL 31 true true lims (by simp))) ?_
     simp only [h4, go_sem]
     exact PostF.rs (v0 := .tup [.nilS, .int .i64 2]) (.inr rfl)
    | false =>
     have e : dropsR fls lims = (dropsL fls lims, 0) := by rw [e0, h3, h4]; rfl
     rw [e]
     exact drops_ok fls lims (by omega) (by omega) h3 h4
end Go.Proofs.Ytfhhbkehlfipgaa
end
