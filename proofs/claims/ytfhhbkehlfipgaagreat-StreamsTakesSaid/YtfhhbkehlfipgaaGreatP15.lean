/- Lemmas for the walk: ZC63, ZC64, ZC65, ZC31. -/
import Derived.Test.YtfhhbkehlfipgaaGreatP14
import Derived.Test.YtfhhbkehlfipgaaGreatP13
set_option linter.all false
section
namespace Go.Proofs.YtfhhbkehlfipgaaGreat
open Go.Tx
set_option maxRecDepth 100000
set_option maxHeartbeats 16000000
theorem plI_at {ps : List Dat} (hnd : (ps.map Dat.tsn).Nodup) {m : Nat} (hm : m < ps.length) : plI ps (ps[m]).tsn = m := by
 obtain ⟨k, hk, e1, e2⟩ := idxI_getT (getT_self hnd (List.getElem_mem hm))
 have : k = m := by
  have h2 : (ps[k]).tsn = (ps[m]).tsn := by rw [e2]
  have h1 : (ps.map Dat.tsn)[k]'(by simpa using hk) = (ps.map Dat.tsn)[m]'(by simpa using hm) := by simpa using h2
  exact (List.getElem_inj hnd).1 h1
 rw [e1, this]
structure RcX where
 k : Nat
 q : Nat
 x : Dat
 tx : List UInt8
 ns : List Int
def RcX.out (ps : List Dat) (z : RcX) : List Int := (z.ns ++ [z.x.tsn]).map (plI ps)
structure RcP (ps : List Dat) (d : Dat) (z : RcX) : Prop where
 q1 : 300 ≤ z.q
 q2 : z.q < 10000 * (z.k + 1)
 kle : z.k ≤ 80
 len : z.ns.length = z.k
 mem : z.x ∈ ps
 sub : ∀ n ∈ z.ns, n ∈ ps.map Dat.tsn
 seq : ∀ j (hj : j < z.ns.length), z.ns[j] = (d.tsn + j) % 4294967296
 cur : z.x.tsn = (d.tsn + z.k) % 4294967296
 st : z.x.st = d.st
 sq : z.x.sq = d.sq
 lo : z.x.lo = d.lo
 fi : z.x.fi = true → z.k = 0
 go : compG ps d (ps.length + 1) d [] [] = compG ps d (ps.length + 1 - z.k) z.x z.tx z.ns
theorem RcP.nodup {ps : List Dat} {d : Dat} {z : RcX} (h : RcP ps d z) (hd0 : 0 ≤ d.tsn) (hk : z.k ≤ 1000) : (z.ns ++ [z.x.tsn]).Nodup := by
 rw [List.Nodup, List.pairwise_iff_getElem]
 have hg : ∀ (j : Nat) (hj : j < (z.ns ++ [z.x.tsn]).length), (z.ns ++ [z.x.tsn])[j] = (d.tsn + j) % 4294967296 := by
  intro j hj
  by_cases hl : j < z.ns.length
  ·rw [List.getElem_append_left hl]; exact h.seq j hl
  ·have : j = z.k := by have := h.len; simp at hj; omega
   subst this
   rw [List.getElem_append_right (by omega)]
   simpa using h.cur
 intro i j hi hj hij he
 have h1 := hg i hi
 have h2 := hg j hj
 have hl := h.len
 have e : (d.tsn + i) % 4294967296 = (d.tsn + j) % 4294967296 := by rw [← h1, ← h2]; exact he
 simp at hi hj
 omega
theorem RcP.le {ps : List Dat} {d : Dat} {z : RcX} (h : RcP ps d z) (hd0 : 0 ≤ d.tsn) (hk : z.k ≤ 1000) : z.k + 1 ≤ ps.length := by
 have := nodup_sub (m := ps.map Dat.tsn) (h.nodup hd0 hk) (fun n hn => by
  rcases List.mem_append.1 hn with hn | hn
  ·exact h.sub n hn
  ·simp at hn; subst hn; exact List.mem_map_of_mem h.mem)
 simp [h.len] at this; exact this
theorem RcP.pass {ps : List Dat} {d : Dat} {z : RcX} (h : RcP ps d z) (hd0 : 0 ≤ d.tsn) (hk : z.k ≤ 1000) : (z.x.st != d.st || z.x.sq != d.sq || z.x.lo != d.lo || (z.x.fi && !z.ns.isEmpty) || z.ns.contains z.x.tsn) = false := by
 have hnd := h.nodup hd0 hk
 rw [List.nodup_append] at hnd
 have h1 : z.ns.contains z.x.tsn = false := by
  rw [← Bool.not_eq_true, List.contains_iff_mem]
  intro hm
  exact hnd.2.2 _ hm _ (by simp) rfl
 have h2 : (z.x.fi && !z.ns.isEmpty) = false := by
  cases hf : z.x.fi with
  | false => rfl
  | true =>
   have := h.fi hf
   have hl := h.len
   have : z.ns = [] := List.eq_nil_of_length_eq_zero (by omega)
   rw [this]; rfl
 rw [h1, h2, h.st, h.sq, h.lo]; simp
theorem RcP.step {ps : List Dat} {d : Dat} {z : RcX} (h : RcP ps d z) (hd0 : 0 ≤ d.tsn) (hk : z.k + 1 ≤ ps.length) (hlen : ps.length ≤ 80) :
  compG ps d (ps.length + 1) d [] [] = if z.x.la then some (z.tx ++ z.x.pl, z.ns ++ [z.x.tsn]) else match getT ps ((z.x.tsn + 1) % 4294967296) with
   | none => none
   | some d' => compG ps d (ps.length + 1 - (z.k + 1)) d' (z.tx ++ z.x.pl) (z.ns ++ [z.x.tsn]) := by
 rw [h.go]
 obtain ⟨m, hm⟩ : ∃ m, ps.length + 1 - z.k = m + 1 := ⟨ps.length - z.k, by omega⟩
 rw [hm, compG, if_neg (by rw [h.pass hd0 (by omega)]; simp), show ps.length + 1 - (z.k + 1) = m by omega]
 rfl
theorem complete_some {ps : List Dat} {d : Dat} (hfi : d.fi = true) {r : List UInt8 × List Int} (h : compG ps d (ps.length + 1) d [] [] = some r) : numsC (complete ps d) = r.2 := by
 unfold complete
 rw [if_pos hfi, h]; rfl
theorem complete_none {ps : List Dat} {d : Dat} (hfi : d.fi = true) (h : compG ps d (ps.length + 1) d [] [] = none) : numsC (complete ps d) = [] := by
 unfold complete
 rw [if_pos hfi, h]; rfl
theorem compG_bad {ps : List Dat} {d y : Dat} {k : Nat} {tx : List UInt8} {ns : List Int} (h : y.fi = true ∨ y.st ≠ d.st ∨ y.sq ≠ d.sq ∨ y.lo ≠ d.lo) (hn : ns ≠ []) : compG ps d k y tx ns = none := by
 cases k with
 | zero => rfl
 | succ k =>
  rw [compG, if_pos]
  have e : ns.isEmpty = false := by cases ns with | nil => exact absurd rfl hn | cons _ _ => rfl
  rcases h with h | h | h | h
  ·simp [h, e]
  ·simp [h]
  ·simp [h]
  ·simp [h]
theorem refComplete_ok {F : SF} {L nx : Nat} (ps : List Dat) (hlen : ps.length ≤ 80) (hall : ∀ x ∈ ps, x.ok = true) (hnd : (ps.map Dat.tsn).Nodup) (m : Nat) (hm : m < ps.length) :
  Con Tryz.prog 91 [.fs 8 (ps.map Dat.row), .int .i64 m] F L nx nx (.fs 1 (((numsC (complete ps ps[m])).map (plI ps)).map eI)) [] [] := by
 have hb : ∀ x ∈ ps, 0 ≤ x.tsn ∧ x.tsn < 4294967296 := fun x hx => by have := Dat.ok_bounds (hall x hx); omega
 have rm := rowD hm
 have hdm := List.getElem_mem hm
 have hpm := plI_at hnd hm
 obtain ⟨d, hd⟩ : ∃ d, d = ps[m] := ⟨_, rfl⟩
 rw [← hd] at rm hdm hpm ⊢
 have hd0 := hb d hdm
 refine bdy Tryz.f91 ?_
 intro F3 hF1 hF2
 cases hfi : d.fi with
 | false =>
  have e : numsC (complete ps d) = [] := by simp [complete, hfi, numsC]
  rw [e]
  simp only [Tryz.f91, cx, rm, Dat.row, hfi, Int.toNat_natCast, List.length_map, go_sem, meths]
  repeat refine sd2 ?_
  exact PostF.rs (v0 := .nilS) (.inr rfl)
 | true =>
  simp only [Tryz.f91, cx, rm, Dat.row, hfi, Int.toNat_natCast, List.length_map, go_sem, meths]
  repeat refine sd2 ?_
  refine loopK.intro _ _ (I := fun z : RcX => ⟨[some (.fs 8 (ps.map Dat.row)), none, none, none, none, some (.ptr ⟨L + 1, 160⟩ 0 0), some (.sl ⟨L + 1, z.q⟩ 0 (z.k + 1)), none, none, none, none, none, none, none, none, none, none, none, none, none, none, none, none, none, none, none, none, none, none, none, none, none, none, none, none, none, none, none, none, none, none, none, none, none, none, none, none, none, none, none, none, none, none, none, none, none, none, none, none, none, none, none, none, none, none, none, none, none, none, none, none, none, none, none, none, none],
   [(⟨L + 1, 160⟩, .rows 32 8 true true [[.int .i64 d.tsn, .int .i64 d.st, .int .i64 d.sq, .int .i64 d.pr, .bool true, .bool d.la, .bool d.lo, .str d.pl]]), (⟨L + 1, z.q⟩, .rows 3 1 true true ((z.out ps).map eI))], 10000 * (z.k + 1)⟩)
   (pre := RcP ps d) (μ := fun z => ps.length - z.k) ⟨0, 352, d, [], []⟩ ⟨by simp, by simp, by simp, rfl, hdm, by simp, by simp, by simp only [Int.natCast_zero, Int.add_zero]; omega, rfl, rfl, rfl, fun _ => rfl, rfl⟩ ?_ ?_
  ·refine Sub.of (hfz hF2) (by simp only [go_sem, subT, and_self]) ?_ (by simp [subK, keys]) (by simp)
   simp [subH, Tx.look, RcX.out, hpm, eI]
  ·rintro ⟨i, q, x, tx, ns⟩ hP
   have hP0 := hP
   obtain ⟨hq1, hq2, hk80, hni, hx, hns, hsq, hcu, hst, hsq, hlo, hfx, hgo⟩ := hP
   simp only at hq1 hq2 hk80 hni hx hns hcu hst hsq hlo hfx hgo ⊢
   have q_160 : (q = 160) = False := by apply eq_false; omega
   have n160_q : (160 = q) = False := by apply eq_false; omega
   have q_n1 : ∀ kk, (10000 * (i + 1) + kk = q) = False := fun kk => by apply eq_false; omega
   have q_n2 : ∀ kk, (q = 10000 * (i + 1) + kk) = False := fun kk => by apply eq_false; omega
   have q_n3 : (10000 * (i + 1) = q) = False := by apply eq_false; omega
   have q_n4 : (q = 10000 * (i + 1)) = False := by apply eq_false; omega
   have q_n5 : ∀ kk, ((⟨L + 1, q⟩ : Nm) == ⟨L + 1, 10000 * (i + 1) + kk⟩) = false := fun kk => by simp; omega
   have hle := hP0.le hd0.1 (by simp only []; omega)
   simp only at hle
   have hstep := hP0.step hd0.1 hle hlen
   simp only at hstep
   obtain ⟨mx, hmx, ep, ex⟩ := idxI_getT (getT_self hnd hx)
   have r2 := rowD hmx
   rw [ex] at r2
   obtain ⟨o, ho⟩ : ∃ o, o = RcX.out ps ⟨i, q, x, tx, ns⟩ := ⟨_, rfl⟩
   have hol : o.length = i + 1 := by rw [ho]; simp [RcX.out, hni]
   have hog : o.getD i 0 = mx := by
    rw [ho]; simp only [RcX.out]
    rw [List.map_append, List.getD_eq_getElem?_getD, List.getElem?_append_right (by simp; omega)]
    simp [hni, ep]
   have r1 := getD_eI o (i := i) (by omega)
   rw [hog] at r1
   have e0 : (((i + 1 : Nat) : Int) - 1).toNat = i := by omega
   rw [← ho]
   obtain ⟨b1, b2⟩ := hb x hx
   cases hla : x.la with
   | true =>
    have e : numsC (complete ps d) = ns ++ [x.tsn] := complete_some hfi (by rw [hstep, hla]; rfl)
    rw [e, ← show o = (ns ++ [x.tsn]).map (plI ps) from ho]
    simp only [e0, r1, r2, hla, eI, Dat.row, Int.toNat_natCast, List.length_map, q_160, q_n1, Nat.add_assoc, go_sem]
    repeat refine sd2 ?_
    exact PostF.rs (v0 := .sl ⟨L + 1, q⟩ 0 (i + 1) ) (.inr rfl) (hw := by simp [Wk, Tx.look, List.take_of_length_le, q_160, hol])
   | false =>
    rw [hla] at hstep
    simp only [e0, r1, r2, hla, eI, Dat.row, Int.toNat_natCast, List.length_map, q_160, q_n1, Nat.add_assoc, Nat.add_zero, go_sem]
    repeat refine sd2 ?_
    refine CallVC.same (behind32R_ok x.tsn (by omega) (by omega)) ?_
    simp only [go_sem]
    refine CallVC.same (rAt_ok ps ((x.tsn + 1) % 4294967296) (by omega)) ?_
    rw [show idxI (tsnB ((x.tsn + 1) % 4294967296)) ps = plI ps ((x.tsn + 1) % 4294967296) from rfl]
    cases hGT : getT ps ((x.tsn + 1) % 4294967296) with
    | none =>
     rw [idxI_none hGT]
     rw [hGT] at hstep
     have e : numsC (complete ps d) = [] := complete_none hfi (by rw [hstep]; rfl)
     rw [e]
     have f1 : decide ((-1 : Int) < 0) = true := rfl
     simp only [f1, Nat.add_assoc, go_sem]
     repeat refine sd2 ?_
     exact PostF.rs (v0 := .nilS) (.inr rfl)
    | some y =>
     obtain ⟨my, hmy, epy, exy⟩ := idxI_getT hGT
     have r3 := rowD hmy
     rw [exy] at r3
     rw [epy]
     rw [hGT] at hstep
     simp only [Bool.false_eq_true, if_false] at hstep
     obtain ⟨hym, hyt⟩ := getT_mem hGT
     have f1 : decide ((my : Int) < 0) = false := dF (by omega)
     have f2 : decide ((ps.length : Int) < ((i + 1 : Nat) : Int)) = false := dF (by omega)
     have hbad : (y.fi = true ∨ y.st ≠ d.st ∨ y.sq ≠ d.sq ∨ y.lo ≠ d.lo) → numsC (complete ps d) = [] := fun h => complete_none hfi (by rw [hstep, compG_bad h (by simp)])
     cases c1 : y.fi with
     | true =>
      rw [hbad (.inl c1)]
      simp only [f1, f2, r3, c1, Dat.row, Int.toNat_natCast, List.length_map, q_n1, nS2, Nat.add_assoc, go_sem]
      repeat refine sd2 ?_
      exact PostF.rs (v0 := .nilS) (.inr rfl)
     | false =>
     cases c2 : y.st != d.st with
     | true =>
      rw [hbad (.inr (.inl (by simpa using c2)))]
      simp only [f1, f2, r3, c1, c2, Dat.row, Int.toNat_natCast, List.length_map, n160_q, q_n1, nS2, Nat.add_assoc, go_sem]
      repeat refine sd2 ?_
      exact PostF.rs (v0 := .nilS) (.inr rfl)
     | false =>
     cases c3 : y.sq != d.sq with
     | true =>
      rw [hbad (.inr (.inr (.inl (by simpa using c3))))]
      simp only [f1, f2, r3, c1, c2, c3, Dat.row, Int.toNat_natCast, List.length_map, n160_q, q_n1, nS2, Nat.add_assoc, go_sem]
      repeat refine sd2 ?_
      exact PostF.rs (v0 := .nilS) (.inr rfl)
     | false =>
     have c4' : (y.lo != d.lo) = !(y.lo == d.lo) := rfl
     cases c4 : y.lo == d.lo with
     | false =>
      rw [hbad (.inr (.inr (.inr (by simpa using c4))))]
      simp only [f1, f2, r3, c1, c2, c3, c4, Dat.row, Int.toNat_natCast, List.length_map, n160_q, q_n1, nS2, Nat.add_assoc, go_sem]
      repeat refine sd2 ?_
      exact PostF.rs (v0 := .nilS) (.inr rfl)
     | true =>
      simp only [f1, f2, r3, c1, c2, c3, c4, Dat.row, Int.toNat_natCast, List.length_map, q_160, n160_q, q_n1, q_n2, q_n5, nS2, Nat.add_assoc, go_sem]
      repeat refine sd2 ?_
      refine ⟨⟨i + 1, 10000 * (i + 1) + 1856, y, tx ++ x.pl, ns ++ [x.tsn]⟩, ?_, by simp only []; omega, ?_⟩
      ·refine ⟨by simp only []; omega, by simp only []; omega, by simp only []; omega, by simp [hni], hym, ?_, ?_, ?_, ?_, ?_, ?_, by simp [c1], ?_⟩
       ·intro n hn
        rcases List.mem_append.1 hn with hn | hn
        ·exact hns n hn
        ·simp at hn; subst hn; exact List.mem_map_of_mem hx
       ·intro j hj
        simp only at hj ⊢
        by_cases hl : j < ns.length
        ·rw [List.getElem_append_left hl]; exact hP0.seq j hl
        ·have : j = i := by simp at hj; omega
         subst this
         rw [List.getElem_append_right (by omega)]
         simpa using hcu
       ·simp only []; rw [hyt, hcu]; omega
       ·simpa using c2
       ·simpa using c3
       ·simpa using c4
       ·exact hstep
      ·have e9 : (RcX.out ps ⟨i + 1, 10000 * (i + 1) + 1856, y, tx ++ x.pl, ns ++ [x.tsn]⟩).map eI = o.map eI ++ [[.int .i64 my]] := by
        rw [ho]; simp only [RcX.out, List.map_append, List.map_cons, List.map_nil, hyt, epy]; rfl
       refine Sub.of (hfz hF2) (by simp only [go_sem, subT, and_self, Nat.add_assoc]) ?_ (by simp [subK, keys]) (by simp only []; omega)
       simp [subH, Tx.look, e9, q_n1]
def dueF (inn : List Int) (ps : List Dat) (d : Dat) : Option (Msg × List Int) := if !d.lo && d.sq != inn.getD d.st.toNat 0 then none else complete ps d
theorem refDue_ok {F : SF} {L nx : Nat} (out inn asked : List Int) (num seen : Int) (ps : List Dat) (hlen : ps.length ≤ 80) (hall : ∀ x ∈ ps, x.ok = true) (hst : ∀ x ∈ ps, x.st < inn.length) (hnd : (ps.map Dat.tsn).Nodup) (hil : inn.length ≤ 1000000) :
  Con Tryz.prog 48 [strV out inn num seen asked ps] F L nx nx (.fs 1 (((numsC (dueG inn ps)).map (plI ps)).map eI)) [] [] := by
 have hcm := fun F L nx m hm => refComplete_ok (F := F) (L := L) (nx := nx) ps hlen hall hnd m hm
 refine bdy Tryz.f48 ?_
 intro F3 hF1 hF2
 simp only [Tryz.f48, cx, strV, go_sem, meths]
 refine loopK.intro _ _ (I := fun i : Nat => ⟨[none, some (.ptr ⟨L + 1, 0⟩ 0 0), none, some (.int .i64 i), none, none, none, none, none, none, none, none, none, none, none, none, none, none, none, none, none, none, none, none, none, none, none, none, none, none, none, none, none, none, none, none, none, none, none], [(⟨L + 1, 0⟩, .rows 41 6 true true [[.fs 1 (out.map eI), .fs 1 (inn.map eI), .fs 8 (ps.map Dat.row), .int .i64 num, .int .i64 seen, .fs 1 (asked.map eI)]])], 10000 * (i + 1)⟩)
  (pre := fun i => i ≤ ps.length ∧ dueG inn ps = (ps.drop i).findSome? (dueF inn ps)) (μ := fun i => ps.length - i) 0 ⟨by omega, rfl⟩ ?_ ?_
 ·refine Sub.of (hfz hF2) (by simp only [go_sem, subT, and_self, Int.natCast_zero]) ?_ (by simp [subK, keys]) (by simp)
  simp [subH, Tx.look]
 ·rintro i ⟨hi, hdi⟩
  by_cases hlt : i < ps.length
  ·have f1 : decide ((i : Int) < (ps.length : Int)) = true := dT (by omega)
   have r0 := rowD hlt
   have hd := List.getElem_mem hlt
   have hdr : ps.drop i = ps[i] :: ps.drop (i + 1) := List.drop_eq_getElem_cons hlt
   rw [hdr, List.findSome?_cons] at hdi
   have hc := fun F L nx => hcm F L nx i hlt
   obtain ⟨d, hdd⟩ : ∃ d, d = ps[i] := ⟨_, rfl⟩
   rw [← hdd] at r0 hd hdi
   simp only [← hdd] at hc
   have hok := Dat.ok_bounds (hall d hd)
   have hs2 := hst d hd
   have r1 := getD_eI inn (i := d.st.toNat) (by omega)
   have key : dueF inn ps d = none → (∃ y, (y ≤ ps.length ∧ dueG inn ps = (ps.drop y).findSome? (dueF inn ps)) ∧ ps.length - y < ps.length - i ∧ y = i + 1) := fun h => ⟨i + 1, ⟨by omega, by rw [hdi, h]⟩, by omega, rfl⟩
   have f0 : decide ((0 : Int) < ((0 : Nat) : Int)) = false := rfl
   cases hlo : d.lo with
   | true =>
    have hgd : dueF inn ps d = complete ps d := by simp [dueF, hlo]
    simp only [f1, r0, hlo, Dat.row, Int.toNat_natCast, List.length_map, Nat.add_assoc, go_sem]
    repeat refine sd1 ?_
    refine CallVC.same (hc _ _ _) ?_
    cases hcc : complete ps d with
    | none =>
     rw [hgd, hcc] at hdi
     simp only [numsC, List.map_nil, f0, Nat.add_assoc, go_sem]
     repeat refine sd1 ?_
     refine ⟨i + 1, ⟨by omega, hdi⟩, by omega, ?_⟩
     refine Sub.o hF2 ?_
     simp [subH, Tx.look]
    | some r =>
     obtain ⟨m, ns⟩ := r
     rw [hgd, hcc] at hdi
     rw [hdi]
     have f2 : decide ((0 : Int) < (ns.length : Int)) = true := dT (by have := complete_ne hcc; omega)
     simp only [numsC, f2, List.length_map, Nat.add_assoc, go_sem]
     exact PostF.rs (v0 := .fs 1 ((ns.map (plI ps)).map eI)) (.inr rfl)
   | false =>
    cases hsq : d.sq == inn.getD d.st.toNat 0 with
    | false =>
     have hgd : dueF inn ps d = none := by simp only [dueF, hlo, bne, hsq]; rfl
     rw [hgd] at hdi
     simp only [f1, r0, r1, eI, hlo, hsq, Dat.row, Int.toNat_natCast, List.length_map, Nat.add_assoc, go_sem]
     repeat refine sd1 ?_
     refine ⟨i + 1, ⟨by omega, hdi⟩, by omega, ?_⟩
     refine Sub.o hF2 ?_
     simp [subH, Tx.look]
    | true =>
     have hgd : dueF inn ps d = complete ps d := by simp only [dueF, hlo, bne, hsq]; rfl
     simp only [f1, r0, r1, eI, hlo, hsq, Dat.row, Int.toNat_natCast, List.length_map, Nat.add_assoc, go_sem]
     repeat refine sd1 ?_
     refine CallVC.same (hc _ _ _) ?_
     cases hcc : complete ps d with
     | none =>
      rw [hgd, hcc] at hdi
      simp only [numsC, List.map_nil, f0, Nat.add_assoc, go_sem]
      repeat refine sd1 ?_
      refine ⟨i + 1, ⟨by omega, hdi⟩, by omega, ?_⟩
      refine Sub.o hF2 ?_
      simp [subH, Tx.look]
     | some r =>
      obtain ⟨m, ns⟩ := r
      rw [hgd, hcc] at hdi
      rw [hdi]
      have f2 : decide ((0 : Int) < (ns.length : Int)) = true := dT (by have := complete_ne hcc; omega)
      simp only [numsC, f2, List.length_map, Nat.add_assoc, go_sem]
      exact PostF.rs (v0 := .fs 1 ((ns.map (plI ps)).map eI)) (.inr rfl)
  ·have f1 : decide ((i : Int) < (ps.length : Int)) = false := dF (by omega)
   have e4 : dueG inn ps = none := by rw [hdi, List.drop_of_length_le (by omega)]; rfl
   rw [e4]
   simp only [f1, numsC, List.map_nil, List.length_map, Nat.add_assoc, go_sem]
   exact PostF.rs (v0 := .nilS) (.inr rfl)
theorem chk_no {out inn asked : List Int} {num seen : Int} {ps : List Dat} (ha2 : asked.length ≤ 1000000) (h : ¬ (Str0 out inn num seen asked ∧ PsOk inn ps ∧ dueG inn ps = none)) : chkB out inn num seen asked ps = false := by
 cases hc : chkB out inn num seen asked ps with
 | false => rfl
 | true => exact absurd (chkB_ok hc ha2) h
theorem idxI_before {α : Type} {p : α → Bool} : ∀ {Z : List α} {i : Nat}, idxI p Z = i → ∀ (j : Nat) (hj : j < Z.length), j < i → p Z[j] = false := by
 intro Z i h j hj hji
 unfold idxI at h
 cases hf : Z.findIdx? p with
 | none => rw [hf] at h; simp only at h; omega
 | some k =>
  rw [hf] at h
  simp only at h
  have : k = i := by omega
  subst this
  have := List.findIdx?_eq_some_iff_getElem.1 hf
  obtain ⟨_, _, h3⟩ := this
  simpa using h3 j hji
theorem no_dup {ps : List Dat} {t : Int} {i : Nat} (h : plI ps t = i) : ((ps.take i).any fun y => y.tsn == t) = false := by
 rw [List.any_eq_false]
 intro y hy
 obtain ⟨j, hj, rfl⟩ := List.getElem_of_mem hy
 rw [List.length_take] at hj
 have := idxI_before (p := tsnB t) h j (by omega) (by omega)
 simpa [tsnB] using this
theorem nums_len {o : Option (Msg × List Int)} {ps : List Dat} {f : Dat} {inn : List Int} (h : dueG inn ps = o) : (((numsC o).length : Int) == 0) = o.isNone := by
 cases o with
 | none => rfl
 | some r =>
  obtain ⟨m, ns⟩ := r
  obtain ⟨_, _, hcm, _⟩ := due_spec h
  have := complete_ne hcm
  simp only [numsC, Option.isNone]
  rw [beq_eq_false_iff_ne]; omega
theorem right_ok {F : SF} {L nx : Nat} (out inn asked : List Int) (num seen : Int) (ps : List Dat) (ho : out.length ≤ 1000000) (hi : inn.length ≤ 1000000) (ha2 : asked.length ≤ 1000000) (hpl : ps.length ≤ 1000000) :
  Con Tryz.prog 12 [strV out inn num seen asked ps] F L nx nx (.bool (chkB out inn num seen asked ps)) [] [] := by
 have hno := fun h => chk_no (out := out) (inn := inn) (num := num) (seen := seen) (ps := ps) ha2 h
 refine bdy Tryz.f12 ?_
 intro F3 hF1 hF2
 by_cases y1 : out.length < 1
 ·have f1 : decide ((out.length : Int) < 1) = true := dT (by omega)
  rw [hno fun h => absurd h.1.o1 (by omega)]
  simp only [Tryz.f12, cx, strV, f1, List.length_map, Nat.add_zero, go_sem, meths]
  repeat refine sd2 ?_
  exact .bool (.inr rfl) rfl rfl (by simp [UpdAll])
 have f1 : decide ((out.length : Int) < 1) = false := dF (by omega)
 by_cases y2 : 16 < out.length
 ·have f2 : decide ((16 : Int) < (out.length : Int)) = true := dT (by omega)
  rw [hno fun h => absurd h.1.o2 (by omega)]
  simp only [Tryz.f12, cx, strV, f1, f2, List.length_map, Nat.add_zero, go_sem, meths]
  repeat refine sd2 ?_
  exact .bool (.inr rfl) rfl rfl (by simp [UpdAll])
 have f2 : decide ((16 : Int) < (out.length : Int)) = false := dF (by omega)
 by_cases y3 : inn.length < 1
 ·have f3 : decide ((inn.length : Int) < 1) = true := dT (by omega)
  rw [hno fun h => absurd h.1.i1 (by omega)]
  simp only [Tryz.f12, cx, strV, f1, f2, f3, List.length_map, Nat.add_zero, go_sem, meths]
  repeat refine sd2 ?_
  exact .bool (.inr rfl) rfl rfl (by simp [UpdAll])
 have f3 : decide ((inn.length : Int) < 1) = false := dF (by omega)
 by_cases y4 : 16 < inn.length
 ·have f4 : decide ((16 : Int) < (inn.length : Int)) = true := dT (by omega)
  rw [hno fun h => absurd h.1.i2 (by omega)]
  simp only [Tryz.f12, cx, strV, f1, f2, f3, f4, List.length_map, Nat.add_zero, go_sem, meths]
  repeat refine sd2 ?_
  exact .bool (.inr rfl) rfl rfl (by simp [UpdAll])
 have f4 : decide ((16 : Int) < (inn.length : Int)) = false := dF (by omega)
 by_cases y5 : 80 < ps.length
 ·have f5 : decide ((80 : Int) < (ps.length : Int)) = true := dT (by omega)
  rw [hno fun h => absurd h.2.1.len (by omega)]
  simp only [Tryz.f12, cx, strV, f1, f2, f3, f4, f5, List.length_map, Nat.add_zero, go_sem, meths]
  repeat refine sd2 ?_
  exact .bool (.inr rfl) rfl rfl (by simp [UpdAll])
 have f5 : decide ((80 : Int) < (ps.length : Int)) = false := dF (by omega)
 simp only [Tryz.f12, cx, strV, f1, f2, f3, f4, f5, List.length_map, Nat.add_zero, go_sem, meths]
 refine CallVC.same (rWide_ok num) ?_
 cases y6 : serB 32 num with
 | false =>
  rw [hno fun h => by have := h.1.n; simp [y6] at this]
  simp only [go_sem]
  repeat refine sd2 ?_
  exact .bool (.inr rfl) rfl rfl (by simp [UpdAll])
 | true =>
 have fin : ∀ (hS : Str0 out inn num seen asked), True := fun _ => trivial
 by_cases hsn : seen = -1
 ·have fsn : (seen != -1) = false := neF hsn
  have y7 : seen = -1 ∨ [seen].all (serB 32) = true := .inl hsn
  simp only [fsn, List.length_map, Nat.add_zero, go_sem]
  refine CallVC.same (rListed_ok asked out.length (by omega)) ?_
  cases y8 : listedB asked out.length with
  | false =>
   rw [hno fun h => by have := h.1.a; rw [y8] at this; cases this]
   simp only [go_sem]
   repeat refine sd2 ?_
   exact .bool (.inr rfl) rfl rfl (by simp [UpdAll])
  | true =>
  simp only [go_sem]
  repeat refine sd2 ?_
  refine loopK.intro _ _ (I := fun i : Nat => ⟨[none, some (.ptr ⟨L + 1, 0⟩ 0 0), none, some (.int .i64 i), none, none, none, none, none, none, none, none, none, none, none, none, none, none, none, none, none, none, none, none, none, none, none, none, none, none, none, none, none, none, none, none, none, none, none, none, none, none, none, none, none, none, none, none, none, none, none, none, none, none, none, none, none, none, none, none, none, none, none, none, none, none, none, none, none, none, none, none, none, none, none, none, none, none, none, none, none, none, none, none, none, none, none, none, none, none, none, none, none, none, none, none, none, none, none, none, none, none, none, none, none, none, none, none, none, none, none, none, none, none, none, none, none, none, none, none, none, none, none, none, none, none, none, none, none, none, none, none, none, none, none, none, none, none, none, none, none, none], [(⟨L + 1, 0⟩, .rows 41 6 true true [[.fs 1 (out.map eI), .fs 1 (inn.map eI), .fs 8 (ps.map Dat.row), .int .i64 num, .int .i64 seen, .fs 1 (asked.map eI)]])], 10000 * (i + 1)⟩)
   (pre := fun i => i ≤ out.length ∧ ∀ j, j < i → serB 16 (out.getD j 0) = true) (μ := fun i => out.length - i) 0 ⟨by omega, by omega⟩ ?_ ?_
  ·refine Sub.of (hfz hF2) (by simp only [go_sem, subT, and_self, Int.natCast_zero]) ?_ (by simp [subK, keys]) (by simp)
   simp [subH, Tx.look]
  ·rintro i ⟨hi', hq⟩
   by_cases hlt : i < out.length
   ·have g1 : decide ((i : Int) < (out.length : Int)) = true := dT (by omega)
    have r0 := getD_eI out hlt
    simp only [g1, r0, eI, Int.toNat_natCast, List.length_map, Nat.add_assoc, Nat.add_zero, go_sem]
    repeat refine sd2 ?_
    refine CallVC.same (rShort_ok (out.getD i 0)) ?_
    cases y9 : serB 16 (out.getD i 0) with
    | false =>
     rw [hno fun h => by
      have := List.all_eq_true.1 h.1.o3 (out.getD i 0) (by rw [List.getD_eq_getElem?_getD, List.getElem?_eq_getElem hlt]; simp)
      rw [y9] at this; cases this]
     simp only [Nat.add_assoc, go_sem]
     exact .bool (.inr rfl) rfl rfl (by simp [UpdAll])
    | true =>
     simp only [Nat.add_assoc, go_sem]
     repeat refine sd2 ?_
     refine ⟨i + 1, ⟨by omega, fun j hj => ?_⟩, by omega, ?_⟩
     ·by_cases he : j = i
      ·subst he; exact y9
      ·exact hq j (by omega)
     refine Sub.o hF2 ?_
     simp [subH, Tx.look]
   have g1 : decide ((i : Int) < (out.length : Int)) = false := dF (by omega)
   have ho3 : out.all (serB 16) = true := by
    rw [List.all_eq_true]
    intro x hx
    obtain ⟨j, hj, rfl⟩ := List.getElem_of_mem hx
    have := hq j (by omega)
    rwa [List.getD_eq_getElem?_getD, List.getElem?_eq_getElem hj] at this
   simp only [g1, List.length_map, Nat.add_assoc, Nat.add_zero, go_sem]
   refine loopK.intro _ _ (I := fun i : Nat => ⟨[none, some (.ptr ⟨L + 1, 0⟩ 0 0), none, none, some (.int .i64 i), none, none, none, none, none, none, none, none, none, none, none, none, none, none, none, none, none, none, none, none, none, none, none, none, none, none, none, none, none, none, none, none, none, none, none, none, none, none, none, none, none, none, none, none, none, none, none, none, none, none, none, none, none, none, none, none, none, none, none, none, none, none, none, none, none, none, none, none, none, none, none, none, none, none, none, none, none, none, none, none, none, none, none, none, none, none, none, none, none, none, none, none, none, none, none, none, none, none, none, none, none, none, none, none, none, none, none, none, none, none, none, none, none, none, none, none, none, none, none, none, none, none, none, none, none, none, none, none, none, none, none, none, none, none, none, none, none], [(⟨L + 1, 0⟩, .rows 41 6 true true [[.fs 1 (out.map eI), .fs 1 (inn.map eI), .fs 8 (ps.map Dat.row), .int .i64 num, .int .i64 seen, .fs 1 (asked.map eI)]])], 10000 * (20 + i + 1)⟩)
    (pre := fun i => i ≤ inn.length ∧ ∀ j, j < i → serB 16 (inn.getD j 0) = true) (μ := fun i => inn.length - i) 0 ⟨by omega, by omega⟩ ?_ ?_
   ·refine Sub.o hF2 ?_
    simp [subH, Tx.look]
   ·clear g1 hlt hi' hq
    clear i
    rintro i ⟨hi', hq⟩
    by_cases hlt : i < inn.length
    ·have g1 : decide ((i : Int) < (inn.length : Int)) = true := dT (by omega)
     have r0 := getD_eI inn hlt
     simp only [g1, r0, eI, Int.toNat_natCast, List.length_map, Nat.add_assoc, go_sem]
     repeat refine sd2 ?_
     refine CallVC.same (rShort_ok (inn.getD i 0)) ?_
     cases y9 : serB 16 (inn.getD i 0) with
     | false =>
      rw [hno fun h => by
       have := List.all_eq_true.1 h.1.i3 (inn.getD i 0) (by rw [List.getD_eq_getElem?_getD, List.getElem?_eq_getElem hlt]; simp)
       rw [y9] at this; cases this]
      simp only [Nat.add_assoc, go_sem]
      exact .bool (.inr rfl) rfl rfl (by simp [UpdAll])
     | true =>
      simp only [Nat.add_assoc, go_sem]
      repeat refine sd2 ?_
      refine ⟨i + 1, ⟨by omega, fun j hj => ?_⟩, by omega, ?_⟩
      ·by_cases he : j = i
       ·subst he; exact y9
       ·exact hq j (by omega)
      refine Sub.o hF2 ?_
      simp [subH, Tx.look]
    have g1 : decide ((i : Int) < (inn.length : Int)) = false := dF (by omega)
    have hi3 : inn.all (serB 16) = true := by
     rw [List.all_eq_true]
     intro x hx
     obtain ⟨j, hj, rfl⟩ := List.getElem_of_mem hx
     have := hq j (by omega)
     rwa [List.getD_eq_getElem?_getD, List.getElem?_eq_getElem hj] at this
    have hS : Str0 out inn num seen asked := ⟨by omega, by omega, ho3, by omega, by omega, hi3, by simp [y6], y7, y8, ha2⟩
    simp only [g1, List.length_map, Nat.add_assoc, go_sem]
    refine loopK.intro _ _ (I := fun i : Nat => ⟨[none, some (.ptr ⟨L + 1, 0⟩ 0 0), none, none, none, some (.int .i64 i), none, none, none, none, none, none, none, none, none, none, none, none, none, none, none, none, none, none, none, none, none, none, none, none, none, none, none, none, none, none, none, none, none, none, none, none, none, none, none, none, none, none, none, none, none, none, none, none, none, none, none, none, none, none, none, none, none, none, none, none, none, none, none, none, none, none, none, none, none, none, none, none, none, none, none, none, none, none, none, none, none, none, none, none, none, none, none, none, none, none, none, none, none, none, none, none, none, none, none, none, none, none, none, none, none, none, none, none, none, none, none, none, none, none, none, none, none, none, none, none, none, none, none, none, none, none, none, none, none, none, none, none, none, none, none, none], [(⟨L + 1, 0⟩, .rows 41 6 true true [[.fs 1 (out.map eI), .fs 1 (inn.map eI), .fs 8 (ps.map Dat.row), .int .i64 num, .int .i64 seen, .fs 1 (asked.map eI)]])], 10000 * (50 + i + 1)⟩)
     (pre := fun i => i ≤ ps.length ∧ PsOk inn (ps.take i)) (μ := fun i => ps.length - i) 0 ⟨by omega, ⟨by simp, by simp, by simp⟩⟩ ?_ ?_
    ·refine Sub.o hF2 ?_
     simp [subH, Tx.look]
    ·clear g1 hlt hi' hq
     clear i
     rintro i ⟨hi', hPi⟩
     by_cases hlt : i < ps.length
     ·have g1 : decide ((i : Int) < (ps.length : Int)) = true := dT (by omega)
      have r0 := rowD hlt
      have hdm := List.getElem_mem hlt
      have htk : ps.take (i + 1) = ps.take i ++ [ps[i]] := List.take_succ_eq_append_getElem hlt
      have hpa : ∀ (hP : PsOk inn ps), plI ps (ps[i]).tsn = (i : Int) := fun hP => plI_at hP.nodup hlt
      obtain ⟨d, hdd⟩ : ∃ d, d = ps[i] := ⟨_, rfl⟩
      rw [← hdd] at r0 hdm htk hpa
      simp only [g1, r0, Dat.row, Int.toNat_natCast, List.length_map, Nat.add_assoc, go_sem]
      repeat refine sd1 ?_
      rw [show ([.int .i64 d.tsn, .int .i64 d.st, .int .i64 d.sq, .int .i64 d.pr, .bool d.fi, .bool d.la, .bool d.lo, .str d.pl] : List PV) = d.row from rfl]
      refine CallVC.same (rightData_ok d) ?_
      cases hok : d.ok with
      | false =>
       rw [hno fun h => by have := (partOk_ok (h.2.1.all d hdm)).1; rw [hok] at this; cases this]
       simp only [Dat.row, Nat.add_assoc, go_sem]
       repeat refine sd1 ?_
       exact .bool (.inr rfl) rfl rfl (by simp [UpdAll])
      | true =>
      obtain ⟨w1, w2, w3, w4, w5, w6, w7, w8⟩ := Dat.ok_bounds hok
      by_cases hst : (inn.length : Int) ≤ d.st
      ·have g2 : decide ((inn.length : Int) ≤ d.st) = true := dT hst
       rw [hno fun h => by have := (partOk_ok (h.2.1.all d hdm)).2.1; omega]
       simp only [g2, Dat.row, List.length_map, Nat.add_assoc, go_sem]
       repeat refine sd1 ?_
       exact .bool (.inr rfl) rfl rfl (by simp [UpdAll])
      have g2 : decide ((inn.length : Int) ≤ d.st) = false := dF hst
      have r1 := getD_eI inn (i := d.st.toNat) (by omega)
      obtain ⟨v1, v2⟩ := serB16_at hi3 (k := d.st.toNat) (by omega)
      simp only [g2, Dat.row, List.length_map, Nat.add_assoc, Nat.add_zero, go_sem]
      refine CallVC.same (rAt_ok ps d.tsn (by omega)) ?_
      rw [show idxI (tsnB d.tsn) ps = plI ps d.tsn from rfl]
      by_cases hpl2 : plI ps d.tsn = (i : Int)
      case neg =>
       have g3 : (plI ps d.tsn != (i : Int)) = true := neT hpl2
       rw [hno fun h => hpl2 (hpa h.2.1)]
       simp only [g3, Nat.add_assoc, go_sem]
       repeat refine sd1 ?_
       exact .bool (.inr rfl) rfl rfl (by simp [UpdAll])
      have g3 : (plI ps d.tsn != (i : Int)) = false := neF hpl2
      have hdup := no_dup hpl2
      have hadd : ∀ hp : partOk inn d = true, PsOk inn (ps.take (i + 1)) := fun hp => by rw [htk]; exact psOk_add hPi (by simp only [List.length_take]; omega) hp hdup
      cases hlo : d.lo with
      | true =>
       simp only [g3, Nat.add_assoc, go_sem]
       repeat refine sd1 ?_
       refine ⟨i + 1, ⟨by omega, hadd (by simp only [partOk, hok, hlo, Bool.true_and, Bool.true_or, Bool.and_true, decide_eq_true_eq]; omega)⟩, by omega, ?_⟩
       refine Sub.o hF2 ?_
       simp [subH, Tx.look]
      | false =>
       simp only [g3, r1, eI, List.length_map, Nat.add_assoc, go_sem]
       repeat refine sd1 ?_
       refine CallVC.same (rLead16_ok d.sq (inn.getD d.st.toNat 0) w5 w6 v1 v2) ?_
       by_cases hle : lead d.sq (inn.getD d.st.toNat 0) 16 < 0
       ·have g4 : decide (lead d.sq (inn.getD d.st.toNat 0) 16 < 0) = true := dT hle
        rw [hno fun h => by
         have := (partOk_ok (h.2.1.all d hdm)).2.2
         rcases this with h' | h'
         ·rw [hlo] at h'; cases h'
         ·omega]
        simp only [g4, Nat.add_assoc, go_sem]
        repeat refine sd1 ?_
        exact .bool (.inr rfl) rfl rfl (by simp [UpdAll])
       have g4 : decide (lead d.sq (inn.getD d.st.toNat 0) 16 < 0) = false := dF hle
       simp only [g4, Nat.add_assoc, go_sem]
       repeat refine sd1 ?_
       refine ⟨i + 1, ⟨by omega, hadd (by simp only [partOk, hok, hlo, Bool.true_and, Bool.false_or, Bool.and_eq_true, decide_eq_true_eq]; omega)⟩, by omega, ?_⟩
       refine Sub.o hF2 ?_
       simp [subH, Tx.look]
     ·have g1 : decide ((i : Int) < (ps.length : Int)) = false := dF (by omega)
      have e : i = ps.length := by omega
      subst e
      rw [List.take_of_length_le (by omega)] at hPi
      have hdu := fun F L nx => refDue_ok (F := F) (L := L) (nx := nx) out inn asked num seen ps (by omega) (fun x hx => (partOk_ok (hPi.all x hx)).1) (fun x hx => (partOk_ok (hPi.all x hx)).2.1) hPi.nodup (by omega)
      simp only [strV] at hdu
      simp only [g1, List.length_map, Nat.add_assoc, go_sem]
      refine CallVC.same (hdu _ _ _) ?_
      have e9 : chkB out inn num seen asked ps = (dueG inn ps).isNone := by
       cases hD : dueG inn ps with
       | none => exact chkB_of hS hPi hD
       | some r => exact hno fun h => by rw [hD] at h; cases h.2.2
      rw [e9, ← nums_len (f := datZ) (o := dueG inn ps) rfl]
      simp only [List.length_map, Nat.add_assoc, go_sem]
      exact .bool (.inr rfl) rfl rfl (by simp [UpdAll])
 ·have fsn : (seen != -1) = true := neT hsn
  simp only [fsn, go_sem]
  refine CallVC.same (rWide_ok seen) ?_
  cases y70 : serB 32 seen with
  | false =>
   rw [hno fun h => by
    rcases h.1.s with h' | h'
    ·exact hsn h'
    ·simp [y70] at h']
   simp only [go_sem]
   repeat refine sd2 ?_
   exact .bool (.inr rfl) rfl rfl (by simp [UpdAll])
  | true =>
  have y7 : seen = -1 ∨ [seen].all (serB 32) = true := .inr (by simp [y70])
  simp only [List.length_map, Nat.add_zero, go_sem]
  refine CallVC.same (rListed_ok asked out.length (by omega)) ?_
  cases y8 : listedB asked out.length with
  | false =>
   rw [hno fun h => by have := h.1.a; rw [y8] at this; cases this]
   simp only [go_sem]
   repeat refine sd2 ?_
   exact .bool (.inr rfl) rfl rfl (by simp [UpdAll])
  | true =>
  simp only [go_sem]
  repeat refine sd2 ?_
  refine loopK.intro _ _ (I := fun i : Nat => ⟨[none, some (.ptr ⟨L + 1, 0⟩ 0 0), none, some (.int .i64 i), none, none, none, none, none, none, none, none, none, none, none, none, none, none, none, none, none, none, none, none, none, none, none, none, none, none, none, none, none, none, none, none, none, none, none, none, none, none, none, none, none, none, none, none, none, none, none, none, none, none, none, none, none, none, none, none, none, none, none, none, none, none, none, none, none, none, none, none, none, none, none, none, none, none, none, none, none, none, none, none, none, none, none, none, none, none, none, none, none, none, none, none, none, none, none, none, none, none, none, none, none, none, none, none, none, none, none, none, none, none, none, none, none, none, none, none, none, none, none, none, none, none, none, none, none, none, none, none, none, none, none, none, none, none, none, none, none, none], [(⟨L + 1, 0⟩, .rows 41 6 true true [[.fs 1 (out.map eI), .fs 1 (inn.map eI), .fs 8 (ps.map Dat.row), .int .i64 num, .int .i64 seen, .fs 1 (asked.map eI)]])], 10000 * (i + 1)⟩)
   (pre := fun i => i ≤ out.length ∧ ∀ j, j < i → serB 16 (out.getD j 0) = true) (μ := fun i => out.length - i) 0 ⟨by omega, by omega⟩ ?_ ?_
  ·refine Sub.of (hfz hF2) (by simp only [go_sem, subT, and_self, Int.natCast_zero]) ?_ (by simp [subK, keys]) (by simp)
   simp [subH, Tx.look]
  ·rintro i ⟨hi', hq⟩
   by_cases hlt : i < out.length
   ·have g1 : decide ((i : Int) < (out.length : Int)) = true := dT (by omega)
    have r0 := getD_eI out hlt
    simp only [g1, r0, eI, Int.toNat_natCast, List.length_map, Nat.add_assoc, Nat.add_zero, go_sem]
    repeat refine sd2 ?_
    refine CallVC.same (rShort_ok (out.getD i 0)) ?_
    cases y9 : serB 16 (out.getD i 0) with
    | false =>
     rw [hno fun h => by
      have := List.all_eq_true.1 h.1.o3 (out.getD i 0) (by rw [List.getD_eq_getElem?_getD, List.getElem?_eq_getElem hlt]; simp)
      rw [y9] at this; cases this]
     simp only [Nat.add_assoc, go_sem]
     exact .bool (.inr rfl) rfl rfl (by simp [UpdAll])
    | true =>
     simp only [Nat.add_assoc, go_sem]
     repeat refine sd2 ?_
     refine ⟨i + 1, ⟨by omega, fun j hj => ?_⟩, by omega, ?_⟩
     ·by_cases he : j = i
      ·subst he; exact y9
      ·exact hq j (by omega)
     refine Sub.o hF2 ?_
     simp [subH, Tx.look]
   have g1 : decide ((i : Int) < (out.length : Int)) = false := dF (by omega)
   have ho3 : out.all (serB 16) = true := by
    rw [List.all_eq_true]
    intro x hx
    obtain ⟨j, hj, rfl⟩ := List.getElem_of_mem hx
    have := hq j (by omega)
    rwa [List.getD_eq_getElem?_getD, List.getElem?_eq_getElem hj] at this
   simp only [g1, List.length_map, Nat.add_assoc, Nat.add_zero, go_sem]
   refine loopK.intro _ _ (I := fun i : Nat => ⟨[none, some (.ptr ⟨L + 1, 0⟩ 0 0), none, none, some (.int .i64 i), none, none, none, none, none, none, none, none, none, none, none, none, none, none, none, none, none, none, none, none, none, none, none, none, none, none, none, none, none, none, none, none, none, none, none, none, none, none, none, none, none, none, none, none, none, none, none, none, none, none, none, none, none, none, none, none, none, none, none, none, none, none, none, none, none, none, none, none, none, none, none, none, none, none, none, none, none, none, none, none, none, none, none, none, none, none, none, none, none, none, none, none, none, none, none, none, none, none, none, none, none, none, none, none, none, none, none, none, none, none, none, none, none, none, none, none, none, none, none, none, none, none, none, none, none, none, none, none, none, none, none, none, none, none, none, none, none], [(⟨L + 1, 0⟩, .rows 41 6 true true [[.fs 1 (out.map eI), .fs 1 (inn.map eI), .fs 8 (ps.map Dat.row), .int .i64 num, .int .i64 seen, .fs 1 (asked.map eI)]])], 10000 * (20 + i + 1)⟩)
    (pre := fun i => i ≤ inn.length ∧ ∀ j, j < i → serB 16 (inn.getD j 0) = true) (μ := fun i => inn.length - i) 0 ⟨by omega, by omega⟩ ?_ ?_
   ·refine Sub.o hF2 ?_
    simp [subH, Tx.look]
   ·clear g1 hlt hi' hq
    clear i
    rintro i ⟨hi', hq⟩
    by_cases hlt : i < inn.length
    ·have g1 : decide ((i : Int) < (inn.length : Int)) = true := dT (by omega)
     have r0 := getD_eI inn hlt
     simp only [g1, r0, eI, Int.toNat_natCast, List.length_map, Nat.add_assoc, go_sem]
     repeat refine sd2 ?_
     refine CallVC.same (rShort_ok (inn.getD i 0)) ?_
     cases y9 : serB 16 (inn.getD i 0) with
     | false =>
      rw [hno fun h => by
       have := List.all_eq_true.1 h.1.i3 (inn.getD i 0) (by rw [List.getD_eq_getElem?_getD, List.getElem?_eq_getElem hlt]; simp)
       rw [y9] at this; cases this]
      simp only [Nat.add_assoc, go_sem]
      exact .bool (.inr rfl) rfl rfl (by simp [UpdAll])
     | true =>
      simp only [Nat.add_assoc, go_sem]
      repeat refine sd2 ?_
      refine ⟨i + 1, ⟨by omega, fun j hj => ?_⟩, by omega, ?_⟩
      ·by_cases he : j = i
       ·subst he; exact y9
       ·exact hq j (by omega)
      refine Sub.o hF2 ?_
      simp [subH, Tx.look]
    have g1 : decide ((i : Int) < (inn.length : Int)) = false := dF (by omega)
    have hi3 : inn.all (serB 16) = true := by
     rw [List.all_eq_true]
     intro x hx
     obtain ⟨j, hj, rfl⟩ := List.getElem_of_mem hx
     have := hq j (by omega)
     rwa [List.getD_eq_getElem?_getD, List.getElem?_eq_getElem hj] at this
    have hS : Str0 out inn num seen asked := ⟨by omega, by omega, ho3, by omega, by omega, hi3, by simp [y6], y7, y8, ha2⟩
    simp only [g1, List.length_map, Nat.add_assoc, go_sem]
    refine loopK.intro _ _ (I := fun i : Nat => ⟨[none, some (.ptr ⟨L + 1, 0⟩ 0 0), none, none, none, some (.int .i64 i), none, none, none, none, none, none, none, none, none, none, none, none, none, none, none, none, none, none, none, none, none, none, none, none, none, none, none, none, none, none, none, none, none, none, none, none, none, none, none, none, none, none, none, none, none, none, none, none, none, none, none, none, none, none, none, none, none, none, none, none, none, none, none, none, none, none, none, none, none, none, none, none, none, none, none, none, none, none, none, none, none, none, none, none, none, none, none, none, none, none, none, none, none, none, none, none, none, none, none, none, none, none, none, none, none, none, none, none, none, none, none, none, none, none, none, none, none, none, none, none, none, none, none, none, none, none, none, none, none, none, none, none, none, none, none, none], [(⟨L + 1, 0⟩, .rows 41 6 true true [[.fs 1 (out.map eI), .fs 1 (inn.map eI), .fs 8 (ps.map Dat.row), .int .i64 num, .int .i64 seen, .fs 1 (asked.map eI)]])], 10000 * (50 + i + 1)⟩)
     (pre := fun i => i ≤ ps.length ∧ PsOk inn (ps.take i)) (μ := fun i => ps.length - i) 0 ⟨by omega, ⟨by simp, by simp, by simp⟩⟩ ?_ ?_
    ·refine Sub.o hF2 ?_
     simp [subH, Tx.look]
    ·clear g1 hlt hi' hq
     clear i
     rintro i ⟨hi', hPi⟩
     by_cases hlt : i < ps.length
     ·have g1 : decide ((i : Int) < (ps.length : Int)) = true := dT (by omega)
      have r0 := rowD hlt
      have hdm := List.getElem_mem hlt
      have htk : ps.take (i + 1) = ps.take i ++ [ps[i]] := List.take_succ_eq_append_getElem hlt
      have hpa : ∀ (hP : PsOk inn ps), plI ps (ps[i]).tsn = (i : Int) := fun hP => plI_at hP.nodup hlt
      obtain ⟨d, hdd⟩ : ∃ d, d = ps[i] := ⟨_, rfl⟩
      rw [← hdd] at r0 hdm htk hpa
      simp only [g1, r0, Dat.row, Int.toNat_natCast, List.length_map, Nat.add_assoc, go_sem]
      repeat refine sd1 ?_
      rw [show ([.int .i64 d.tsn, .int .i64 d.st, .int .i64 d.sq, .int .i64 d.pr, .bool d.fi, .bool d.la, .bool d.lo, .str d.pl] : List PV) = d.row from rfl]
      refine CallVC.same (rightData_ok d) ?_
      cases hok : d.ok with
      | false =>
       rw [hno fun h => by have := (partOk_ok (h.2.1.all d hdm)).1; rw [hok] at this; cases this]
       simp only [Dat.row, Nat.add_assoc, go_sem]
       repeat refine sd1 ?_
       exact .bool (.inr rfl) rfl rfl (by simp [UpdAll])
      | true =>
      obtain ⟨w1, w2, w3, w4, w5, w6, w7, w8⟩ := Dat.ok_bounds hok
      by_cases hst : (inn.length : Int) ≤ d.st
      ·have g2 : decide ((inn.length : Int) ≤ d.st) = true := dT hst
       rw [hno fun h => by have := (partOk_ok (h.2.1.all d hdm)).2.1; omega]
       simp only [g2, Dat.row, List.length_map, Nat.add_assoc, go_sem]
       repeat refine sd1 ?_
       exact .bool (.inr rfl) rfl rfl (by simp [UpdAll])
      have g2 : decide ((inn.length : Int) ≤ d.st) = false := dF hst
      have r1 := getD_eI inn (i := d.st.toNat) (by omega)
      obtain ⟨v1, v2⟩ := serB16_at hi3 (k := d.st.toNat) (by omega)
      simp only [g2, Dat.row, List.length_map, Nat.add_assoc, Nat.add_zero, go_sem]
      refine CallVC.same (rAt_ok ps d.tsn (by omega)) ?_
      rw [show idxI (tsnB d.tsn) ps = plI ps d.tsn from rfl]
      by_cases hpl2 : plI ps d.tsn = (i : Int)
      case neg =>
       have g3 : (plI ps d.tsn != (i : Int)) = true := neT hpl2
       rw [hno fun h => hpl2 (hpa h.2.1)]
       simp only [g3, Nat.add_assoc, go_sem]
       repeat refine sd1 ?_
       exact .bool (.inr rfl) rfl rfl (by simp [UpdAll])
      have g3 : (plI ps d.tsn != (i : Int)) = false := neF hpl2
      have hdup := no_dup hpl2
      have hadd : ∀ hp : partOk inn d = true, PsOk inn (ps.take (i + 1)) := fun hp => by rw [htk]; exact psOk_add hPi (by simp only [List.length_take]; omega) hp hdup
      cases hlo : d.lo with
      | true =>
       simp only [g3, Nat.add_assoc, go_sem]
       repeat refine sd1 ?_
       refine ⟨i + 1, ⟨by omega, hadd (by simp only [partOk, hok, hlo, Bool.true_and, Bool.true_or, Bool.and_true, decide_eq_true_eq]; omega)⟩, by omega, ?_⟩
       refine Sub.o hF2 ?_
       simp [subH, Tx.look]
      | false =>
       simp only [g3, r1, eI, List.length_map, Nat.add_assoc, go_sem]
       repeat refine sd1 ?_
       refine CallVC.same (rLead16_ok d.sq (inn.getD d.st.toNat 0) w5 w6 v1 v2) ?_
       by_cases hle : lead d.sq (inn.getD d.st.toNat 0) 16 < 0
       ·have g4 : decide (lead d.sq (inn.getD d.st.toNat 0) 16 < 0) = true := dT hle
        rw [hno fun h => by
         have := (partOk_ok (h.2.1.all d hdm)).2.2
         rcases this with h' | h'
         ·rw [hlo] at h'; cases h'
         ·omega]
        simp only [g4, Nat.add_assoc, go_sem]
        repeat refine sd1 ?_
        exact .bool (.inr rfl) rfl rfl (by simp [UpdAll])
       have g4 : decide (lead d.sq (inn.getD d.st.toNat 0) 16 < 0) = false := dF hle
       simp only [g4, Nat.add_assoc, go_sem]
       repeat refine sd1 ?_
       refine ⟨i + 1, ⟨by omega, hadd (by simp only [partOk, hok, hlo, Bool.true_and, Bool.false_or, Bool.and_eq_true, decide_eq_true_eq]; omega)⟩, by omega, ?_⟩
       refine Sub.o hF2 ?_
       simp [subH, Tx.look]
     ·have g1 : decide ((i : Int) < (ps.length : Int)) = false := dF (by omega)
      have e : i = ps.length := by omega
      subst e
      rw [List.take_of_length_le (by omega)] at hPi
      have hdu := fun F L nx => refDue_ok (F := F) (L := L) (nx := nx) out inn asked num seen ps (by omega) (fun x hx => (partOk_ok (hPi.all x hx)).1) (fun x hx => (partOk_ok (hPi.all x hx)).2.1) hPi.nodup (by omega)
      simp only [strV] at hdu
      simp only [g1, List.length_map, Nat.add_assoc, go_sem]
      refine CallVC.same (hdu _ _ _) ?_
      have e9 : chkB out inn num seen asked ps = (dueG inn ps).isNone := by
       cases hD : dueG inn ps with
       | none => exact chkB_of hS hPi hD
       | some r => exact hno fun h => by rw [hD] at h; cases h.2.2
      rw [e9, ← nums_len (f := datZ) (o := dueG inn ps) rfl]
      simp only [List.length_map, Nat.add_assoc, go_sem]
      exact .bool (.inr rfl) rfl rfl (by simp [UpdAll])
def kE (k : Int × Int) : List PV := [.int .i64 k.1, .int .i64 k.2]
def okSk (sk : List (Int × Int)) (i : Nat) : Bool := (serB 16 (sk.getD i (0, 0)).1 && serB 16 (sk.getD i (0, 0)).2) && (i == 0 || decide ((sk.getD (i - 1) (0, 0)).1 < (sk.getD i (0, 0)).1))
def fwdV (cum : Int) (sk : List (Int × Int)) : Bool := (List.range sk.length).all (okSk sk) && (serB 32 cum && decide (sk.length ≤ 30))
def fwdP (cum : Int) (sk : List (Int × Int)) : PV := .agg [.int .i64 cum, .fs 2 (sk.map kE)]
theorem rowK {sk : List (Int × Int)} {i : Nat} (h : i < sk.length) : (sk.map kE).getD i [] = kE (sk.getD i (0, 0)) := by simp [h, List.getD_eq_getElem?_getD]
theorem forwardValid_ok {F : SF} {L nx : Nat} (cum : Int) (sk : List (Int × Int)) (hlen : sk.length ≤ 1000000) : Con Tryz.prog 142 [fwdP cum sk] F L nx nx (.bool (fwdV cum sk)) [] [] := by
 refine bdy Tryz.f142 ?_
 intro F3 hF1 hF2
 simp only [Tryz.f142, cx, fwdP, Nat.add_zero, go_sem, meths]
 refine loopK.intro _ _ (I := fun i : Nat => ⟨[none, some (.ptr ⟨L + 1, 0⟩ 0 0), none, none, none, none, none, some (.fs 2 (sk.map kE)), some (.int .i64 sk.length), some (.int .i64 i), none, none, none, none, none, none, none, none, none, none, none, none, none, none, none, none, none, none, none, none, none, none, none, none, none, none, none, none, none, none, none, none, none, none, none, none, none, none, none, none, none],
  [(⟨L + 1, 0⟩, .rows 173 2 true true [[.int .i64 cum, .fs 2 (sk.map kE)]])], 10000 * (i + 1)⟩) (pre := fun i => i ≤ sk.length ∧ ∀ j, j < i → okSk sk j = true) (μ := fun i => sk.length - i) 0 ⟨by omega, by intro j h; omega⟩ ?_ ?_
 ·refine Sub.of (hfz hF2) (by simp only [go_sem, subT, and_self, List.length_map, Int.natCast_zero]) ?_ (by simp [subK, keys]) (by simp)
  simp [subH, Tx.look]
 ·rintro i ⟨hi, hp⟩
  have no : i < sk.length → okSk sk i = false → fwdV cum sk = false := by
   intro hl h
   unfold fwdV
   rw [Bool.and_eq_false_iff]
   left
   rw [List.all_eq_false]
   exact ⟨i, by simpa using hl, by simp [h]⟩
  have yes : okSk sk i = true → ∀ j, j < i + 1 → okSk sk j = true := by
   intro h j hj
   by_cases he : j = i
   ·subst he; exact h
   ·exact hp j (by omega)
  by_cases hlt : i < sk.length
  ·have f1 : decide ((i : Int) < (sk.length : Int)) = true := dT (by omega)
   have r0 := rowK hlt
   obtain ⟨k, hk⟩ : ∃ k, k = sk.getD i (0, 0) := ⟨_, rfl⟩
   rw [← hk] at r0
   simp only [f1, r0, kE, nS2, Nat.add_assoc, List.length_map, Nat.add_zero, go_sem]
   repeat refine sd1 ?_
   refine CallVC.pure (args2 := [_, .fs 1 ([k.1, k.2].map eI)]) ⟨rfl, by simp [Wk, eI], trivial⟩ (small_ok 16 [k.1, k.2] (by omega) (by omega) (by simp)) rfl ?_
   have h12 : [k.1, k.2].all (serB 16) = (serB 16 k.1 && serB 16 k.2) := by simp
   cases h1 : serB 16 k.1 && serB 16 k.2 with
   | false =>
    rw [no hlt (by unfold okSk; rw [← hk, h1]; rfl), h12, h1]
    simp only [wkNL, wkN, Nat.add_assoc, go_sem]
    refine ⟨okDyn_num (fun x => x.i % 10000) (by simp only [numF, List.map, Nat.mul_add_mod, Nat.reduceMod]; kernel_rfl), ?_⟩
    exact .bool (.inr rfl) rfl rfl (by simp [UpdAll])
   | true =>
    rw [h12, h1]
    by_cases h3 : i = 0
    ·have f3 : decide ((0 : Int) < (i : Int)) = false := dF (by omega)
     simp only [f3, wkNL, wkN, Nat.add_assoc, go_sem]
     refine ⟨okDyn_num (fun x => x.i % 10000) (by simp only [numF, List.map, Nat.mul_add_mod, Nat.reduceMod]; kernel_rfl), ⟨by omega, by omega⟩, i + 1, ⟨by omega, yes (by unfold okSk; rw [← hk, h1, h3]; rfl)⟩, by omega, ?_⟩
     refine Sub.o hF2 ?_
     simp [subH, Tx.look]
    ·have f3 : decide ((0 : Int) < (i : Int)) = true := dT (by omega)
     have e1 : ((i : Int) - 1).toNat = i - 1 := by omega
     have r1 := rowK (sk := sk) (i := i - 1) (by omega)
     obtain ⟨k', hk'⟩ : ∃ k', k' = sk.getD (i - 1) (0, 0) := ⟨_, rfl⟩
     rw [← hk'] at r1
     have hi0 : (i == 0) = false := by simp [h3]
     cases h4 : decide (k.1 ≤ k'.1) with
     | true =>
      have h5 : decide (k'.1 < k.1) = false := dF (by simp at h4; omega)
      rw [no hlt (by unfold okSk; rw [← hk, ← hk', h1, hi0, h5]; rfl)]
      simp only [f3, e1, r1, h4, kE, wkNL, wkN, nS2', Nat.add_assoc, List.length_map, Nat.add_zero, go_sem]
      repeat refine sd1 ?_
      exact .bool (.inr rfl) rfl rfl (by simp [UpdAll])
     | false =>
      have h5 : decide (k'.1 < k.1) = true := dT (by simp at h4; omega)
      simp only [f3, e1, r1, h4, kE, wkNL, wkN, nS2', Nat.add_assoc, List.length_map, Nat.add_zero, go_sem]
      repeat refine sd1 ?_
      refine ⟨i + 1, ⟨by omega, yes (by unfold okSk; rw [← hk, ← hk', h1, hi0, h5]; rfl)⟩, by omega, ?_⟩
      refine Sub.o hF2 ?_
      simp [subH, Tx.look]
  ·have f1 : decide ((i : Int) < (sk.length : Int)) = false := dF (by omega)
   have hall : (List.range sk.length).all (okSk sk) = true := by
    rw [List.all_eq_true]
    intro j hj
    exact hp j (by have := List.mem_range.1 hj; omega)
   simp only [f1, Nat.add_assoc, Nat.add_zero, go_sem]
   refine CallVC.pure (args2 := [_, .fs 1 ([cum].map eI)]) ⟨rfl, by simp [Wk, eI], trivial⟩ (small_ok 32 [cum] (by omega) (by omega) (by simp)) rfl ?_
   have h6 : [cum].all (serB 32) = serB 32 cum := by simp
   rw [h6]
   unfold fwdV
   rw [hall]
   cases h7 : serB 32 cum with
   | false =>
    simp only [wkNL, wkN, Nat.add_assoc, go_sem]
    exact .bool (.inr rfl) rfl rfl (by simp [UpdAll])
   | true =>
    simp only [wkNL, wkN, Nat.add_assoc, List.length_map, Nat.add_zero, go_sem]
    exact .bool (.inr rfl) rfl (by simp; omega) (by simp [UpdAll])
end Go.Proofs.YtfhhbkehlfipgaaGreat
end
