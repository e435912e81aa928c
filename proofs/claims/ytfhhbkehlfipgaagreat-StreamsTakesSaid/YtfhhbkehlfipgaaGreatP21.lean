/- Lemmas for the walk: ZC77, ZC78, ZC79. -/
import Derived.Test.YtfhhbkehlfipgaaGreatP20
import Derived.Test.YtfhhbkehlfipgaaGreatP17
import Derived.Test.YtfhhbkehlfipgaaGreatP14
set_option linter.all false
section
namespace Go.Proofs.YtfhhbkehlfipgaaGreat
open Go.Tx
set_option maxRecDepth 100000
set_option maxHeartbeats 16000000
structure RkX where
 x : Nat
 i : Nat
structure RkY where
 p : Int
 ns : List Int
 q : Nat
 i : Nat
theorem refCut_ok {F : SF} {L nx : Nat} (ps : List Dat) (hlen : ps.length ≤ 80) (hall : ∀ x ∈ ps, x.ok = true) (cum : Int) :
  Con Tryz.prog 103 [.fs 8 (ps.map Dat.row), .int .i64 cum] F L nx nx (.fs 1 (((rcut ps cum).getD []).map eI)) [] [] := by
 refine bdy Tryz.f103 ?_
 intro F3 hF1 hF2
 simp only [Tryz.f103, cx, go_sem, meths]
 refine loopK.intro _ _ (I := fun z : RkX => ⟨[some (.fs 8 (ps.map Dat.row)), some (.int .i64 cum), none, none, some (.nilS), some (.int .i64 z.x), none, none, none, none, none, none, none, none, none, none, none, none, none, none, none, none, none, none, none, none, none, none, none, none, none, none, none, none, none, none, none, none, none, none, none, none, none, none, none, none, none, none, none, none, none, none, none, none, none, none, none, none, none, none, none, none, none, none, none, none, none, none, none, none, none, none, none, none, none, none, none, none, none, none, none, none, none, none, none, none, none, none, none, none, none], [], 10000 * (z.i + 1)⟩)
  (pre := fun z => z.x ≤ ps.length ∧ rcut ps cum = (ps.drop z.x).findSome? (rcF ps cum)) (μ := fun z => ps.length - z.x) ⟨0, 0⟩ ⟨by simp, rfl⟩ ?_ ?_
 ·exact Sub.of (hfz hF2) (by simp only [go_sem, subT, and_self, Int.natCast_zero]) trivial trivial (by simp)
 ·rintro ⟨x, i⟩ ⟨hx, hr⟩
  simp only at hx hr ⊢
  by_cases hlt : x < ps.length
  ·have f1 : decide ((x : Int) < (ps.length : Int)) = true := dT (by omega)
   have r0 := rowD hlt
   have hdr : ps.drop x = ps[x] :: ps.drop (x + 1) := List.drop_eq_getElem_cons hlt
   have hf := List.getElem_mem hlt
   rw [hdr, List.findSome?_cons] at hr
   obtain ⟨f, hfe⟩ : ∃ f, f = ps[x] := ⟨_, rfl⟩
   rw [← hfe] at r0 hf hr
   cases hfi : f.fi with
   | false =>
    have hF0 : rcF ps cum f = none := by unfold rcF; rw [hfi]; rfl
    rw [hF0] at hr
    simp only [f1, r0, hfi, Dat.row, Int.toNat_natCast, Nat.add_assoc, List.length_map, go_sem]
    repeat refine sd2 ?_
    refine ⟨⟨x + 1, i + 1⟩, ⟨by simp only []; omega, hr⟩, by simp only []; omega, ?_⟩
    exact Sub.of (hfz hF2) (by simp only [go_sem, subT, and_self, Int.natCast_succ]) trivial trivial (by simp only []; omega)
   | true =>
    have hF0 : rcF ps cum f = rcS ps cum f (ps.length + 1) f [] := by unfold rcF; rw [hfi]; rfl
    rw [hF0] at hr
    obtain ⟨R, hR⟩ : ∃ R, R = rcS ps cum f (ps.length + 1) f [] := ⟨_, rfl⟩
    rw [← hR] at hr
    have key : R = none → rcut ps cum = (ps.drop (x + 1)).findSome? (rcF ps cum) := fun h => by rw [hr, h]
    simp only [f1, r0, hfi, Dat.row, Int.toNat_natCast, Nat.add_assoc, List.length_map, go_sem]
    repeat refine sd2 ?_
    refine loopK.intro _ _ (I := fun z : RkY => ⟨[some (.fs 8 (ps.map Dat.row)), some (.int .i64 cum), none, none, some (.nilS), some (.int .i64 x), some (.sl ⟨L + 1, z.q⟩ 0 z.ns.length), some (.int .i64 z.p), none, none, none, none, none, none, none, none, none, none, none, none, none, none, none, none, none, none, none, none, none, none, none, none, none, none, none, none, none, none, none, none, none, none, none, none, none, none, none, none, none, none, none, none, none, none, none, none, none, none, none, none, none, none, none, none, none, none, none, none, none, none, none, none, none, none, none, none, none, none, none, none, none, none, none, none, none, none, none, none, none, none, none], [(⟨L + 1, z.q⟩, .rows 3 1 true true (z.ns.map eI))], 10000 * (z.i + 1)⟩)
     (pre := fun z => z.ns.length ≤ ps.length + 1 ∧ z.q < 10000 * (z.i + 1) ∧ ((z.p = -1 ∧ R = none) ∨ ∃ j, ∃ hj : j < ps.length, z.p = j ∧ R = rcS ps cum f (ps.length + 1 - z.ns.length) ps[j] z.ns)) (μ := fun z => ps.length + 1 - z.ns.length) ⟨x, [], 10000 * (i + 1) + 416, i + 1⟩ ⟨by simp, by simp only []; omega, .inr ⟨x, hlt, rfl, by rw [hR, hfe]; rfl⟩⟩ ?_ ?_
    ·refine Sub.trans (Sub.nilName 6 3 (wd := 1) (by omega) rfl) ?_
     refine Sub.of (hfz hF2) (by simp only [go_sem, subT, and_self]) ?_ (by simp [subK, keys, updH, setH]) (by simp only []; omega)
     simp [subH, Tx.look, updH, setH]
    ·clear hdr i
     rintro ⟨p, ns, q, i⟩ ⟨k1, k2, k3⟩
     simp only at k1 k2 k3 ⊢
     have q_n1 : ∀ kk, (10000 * (i + 1) + kk = q) = False := fun kk => by apply eq_false; omega
     have q_n2 : ∀ kk, (q = 10000 * (i + 1) + kk) = False := fun kk => by apply eq_false; omega
     have q_n3 : (10000 * (i + 1) = q) = False := by apply eq_false; omega
     have q_n4 : (q = 10000 * (i + 1)) = False := by apply eq_false; omega
     have q_n5 : ∀ kk, ((⟨L + 1, q⟩ : Nm) == ⟨L + 1, 10000 * (i + 1) + kk⟩) = false := fun kk => by simp; omega
     by_cases hp : p = -1
     ·have g1 : decide (0 ≤ p) = false := dF (by omega)
      have hRn : R = none := by
       rcases k3 with h | ⟨j, hj, h, _⟩
       ·exact h.2
       ·omega
      simp only [g1, Nat.add_assoc, go_sem]
      repeat refine sd2 ?_
      refine ⟨⟨x + 1, i + 1⟩, ⟨by simp only []; omega, key hRn⟩, by simp only []; omega, ?_⟩
      exact Sub.of (hfz hF2) (by simp only [go_sem, subT, and_self, Int.natCast_succ]) trivial (by simp [subK, keys]) (by simp only []; omega)
     rcases k3 with ⟨h, _⟩ | ⟨j, hj, rfl, hR2⟩
     ·exact absurd h hp
     have g1 : decide ((0 : Int) ≤ (j : Int)) = true := dT (by omega)
     by_cases hn : ns.length ≤ ps.length
     ·have g2 : decide ((ns.length : Int) ≤ (ps.length : Int)) = true := dT (by omega)
      have r1 := rowD hj
      have hdm := List.getElem_mem hj
      obtain ⟨d, hd⟩ : ∃ d, d = ps[j] := ⟨_, rfl⟩
      rw [← hd] at r1 hR2 hdm
      have hok := Dat.ok_bounds (hall d hdm)
      rw [show ps.length + 1 - ns.length = (ps.length - ns.length) + 1 by omega, rcS] at hR2
      have e10 : (d.lo != f.lo) = !(d.lo == f.lo) := rfl
      have e9 : decide ((0 : Int) < (ns.length : Int)) = decide (0 < ns.length) := by simp
      cases c1 : d.la with
      | true =>
       have hRn : R = none := by rw [hR2, if_pos (by simp only [c1, Bool.true_or])]
       simp only [g1, g2, r1, c1, Dat.row, Int.toNat_natCast, q_n1, Nat.add_assoc, List.length_map, go_sem]
       repeat refine sd2 ?_
       refine ⟨okDyn_num (fun x => x.i % 10000) (by simp only [numF, List.map, Nat.mul_add_mod, Nat.reduceMod]; kernel_rfl), ?_⟩
       repeat refine sd2 ?_
       refine ⟨⟨x + 1, i + 1⟩, ⟨by simp only []; omega, key hRn⟩, by simp only []; omega, ?_⟩
       exact Sub.of (hfz hF2) (by simp only [go_sem, subT, and_self, Int.natCast_succ]) trivial (by simp [subK, keys]) (by simp only []; omega)
      | false =>
      cases c2 : decide (0 < ns.length) with
      | false =>
       cases c4 : d.st != f.st with
       | true =>
        have hRn : R = none := by rw [hR2, if_pos (by simp only [c1, c2, c4, Bool.true_or, Bool.or_true, Bool.or_false, Bool.false_and])]
        simp only [g1, g2, r0, r1, c1, e9, c2, c4, Dat.row, Int.toNat_natCast, q_n1, Nat.add_assoc, List.length_map, go_sem]
        repeat refine sd2 ?_
        refine ⟨okDyn_num (fun x => x.i % 10000) (by simp only [numF, List.map, Nat.mul_add_mod, Nat.reduceMod]; kernel_rfl), ?_⟩
        repeat refine sd2 ?_
        refine ⟨⟨x + 1, i + 1⟩, ⟨by simp only []; omega, key hRn⟩, by simp only []; omega, ?_⟩
        exact Sub.of (hfz hF2) (by simp only [go_sem, subT, and_self, Int.natCast_succ]) trivial (by simp [subK, keys]) (by simp only []; omega)
       | false =>
       cases c5 : d.sq != f.sq with
       | true =>
        have hRn : R = none := by rw [hR2, if_pos (by simp only [c1, c2, c4, c5, Bool.true_or, Bool.or_true, Bool.or_false, Bool.false_and])]
        simp only [g1, g2, r0, r1, c1, e9, c2, c4, c5, Dat.row, Int.toNat_natCast, q_n1, Nat.add_assoc, List.length_map, go_sem]
        repeat refine sd2 ?_
        refine ⟨okDyn_num (fun x => x.i % 10000) (by simp only [numF, List.map, Nat.mul_add_mod, Nat.reduceMod]; kernel_rfl), ?_⟩
        repeat refine sd2 ?_
        refine ⟨⟨x + 1, i + 1⟩, ⟨by simp only []; omega, key hRn⟩, by simp only []; omega, ?_⟩
        exact Sub.of (hfz hF2) (by simp only [go_sem, subT, and_self, Int.natCast_succ]) trivial (by simp [subK, keys]) (by simp only []; omega)
       | false =>
       cases c6 : d.lo == f.lo with
       | false =>
        have hRn : R = none := by rw [hR2, if_pos (by simp only [c1, c2, c4, c5, e10, c6, Bool.not_false, Bool.or_true, Bool.or_false, Bool.false_and])]
        simp only [g1, g2, r0, r1, c1, e9, c2, c4, c5, c6, Dat.row, Int.toNat_natCast, q_n1, Nat.add_assoc, List.length_map, go_sem]
        repeat refine sd2 ?_
        refine ⟨okDyn_num (fun x => x.i % 10000) (by simp only [numF, List.map, Nat.mul_add_mod, Nat.reduceMod]; kernel_rfl), ?_⟩
        repeat refine sd2 ?_
        refine ⟨⟨x + 1, i + 1⟩, ⟨by simp only []; omega, key hRn⟩, by simp only []; omega, ?_⟩
        exact Sub.of (hfz hF2) (by simp only [go_sem, subT, and_self, Int.natCast_succ]) trivial (by simp [subK, keys]) (by simp only []; omega)
       | true =>
       rw [if_neg (by simp only [c1, c2, c4, c5, e10, c6, Bool.not_true, Bool.or_false, Bool.false_and, Bool.false_eq_true, not_false_eq_true])] at hR2
       cases ht : d.tsn == cum with
       | true =>
        rw [ht] at hR2
        simp only [if_true] at hR2
        rw [hr, hR2]
        simp only [ht, Option.getD_some, g1, g2, r0, r1, c1, e9, c2, c4, c5, c6, Dat.row, Int.toNat_natCast, q_n1, q_n2, q_n5, nS2, nS2', Nat.add_assoc, List.length_map, Nat.add_zero, go_sem]
        repeat refine sd2 ?_
        refine ⟨okDyn_num (fun x => x.i % 10000) (by simp only [numF, List.map, Nat.mul_add_mod, Nat.reduceMod]; kernel_rfl), ?_⟩
        repeat refine sd2 ?_
        exact PostF.rs (v0 := .sl ⟨L + 1, 10000 * (i + 1) + 1856⟩ 0 (ns.length + 1) ) (.inr rfl) (hw := by simp [Wk, Tx.look, List.take_of_length_le, eI, q_n1])
       | false =>
        rw [ht] at hR2
        simp only [if_false, Bool.false_eq_true] at hR2
        simp only [ht, g1, g2, r0, r1, c1, e9, c2, c4, c5, c6, Dat.row, Int.toNat_natCast, q_n1, q_n2, q_n5, nS2, nS2', Nat.add_assoc, List.length_map, Nat.add_zero, go_sem]
        repeat refine sd2 ?_
        refine ⟨okDyn_num (fun x => x.i % 10000) (by simp only [numF, List.map, Nat.mul_add_mod, Nat.reduceMod]; kernel_rfl), ?_⟩
        repeat refine sd2 ?_
        refine CallVC.same (behind32R_ok d.tsn (by omega) (by omega)) ?_
        simp only [go_sem]
        repeat refine sd2 ?_
        refine CallVC.same (rAt_ok ps ((d.tsn + 1) % 4294967296) (by omega)) ?_
        have en : (ns ++ [d.tsn]).map eI = ns.map eI ++ [[.int .i64 d.tsn]] := by simp [eI]
        have el : (ns ++ [d.tsn]).length = ns.length + 1 := by simp
        have hpl : idxI (tsnB ((d.tsn + 1) % 4294967296)) ps = -1 ∧ R = none ∨ ∃ j, ∃ hj : j < ps.length, idxI (tsnB ((d.tsn + 1) % 4294967296)) ps = j ∧ R = rcS ps cum f (ps.length + 1 - (ns ++ [d.tsn]).length) ps[j] (ns ++ [d.tsn]) := by
         cases hg : getT ps ((d.tsn + 1) % 4294967296) with
         | none => rw [hg] at hR2; exact .inl ⟨idxI_none hg, hR2⟩
         | some y =>
          rw [hg] at hR2
          obtain ⟨j', hj', a1, a2⟩ := idxI_getT hg
          exact .inr ⟨j', hj', a1, by rw [hR2, a2, el, show ps.length + 1 - (ns.length + 1) = ps.length - ns.length by omega]⟩
        obtain ⟨p', hp'⟩ : ∃ x, x = idxI (tsnB ((d.tsn + 1) % 4294967296)) ps := ⟨_, rfl⟩
        rw [← hp'] at hpl ⊢
        simp only [Nat.add_assoc, go_sem]
        repeat refine sd2 ?_
        refine ⟨⟨p', ns ++ [d.tsn], 10000 * (i + 1) + 1856, i + 1⟩, ⟨by simp only [el]; omega, by simp only []; omega, hpl⟩, by simp only [el]; omega, ?_⟩
        refine Sub.of (hfz hF2) (by simp only [el, go_sem, subT, and_self]) ?_ (by simp [subK, keys]) (by simp only []; omega)
        simp only [en]
        simp [subH, Tx.look, q_n1]
      | true =>
      cases c3 : d.fi with
      | true =>
       have hRn : R = none := by rw [hR2, if_pos (by simp only [c1, c2, c3, Bool.true_or, Bool.or_true, Bool.and_true])]
       simp only [g1, g2, r1, c1, e9, c2, c3, Dat.row, Int.toNat_natCast, q_n1, Nat.add_assoc, List.length_map, go_sem]
       repeat refine sd2 ?_
       refine ⟨okDyn_num (fun x => x.i % 10000) (by simp only [numF, List.map, Nat.mul_add_mod, Nat.reduceMod]; kernel_rfl), ?_⟩
       repeat refine sd2 ?_
       refine ⟨⟨x + 1, i + 1⟩, ⟨by simp only []; omega, key hRn⟩, by simp only []; omega, ?_⟩
       exact Sub.of (hfz hF2) (by simp only [go_sem, subT, and_self, Int.natCast_succ]) trivial (by simp [subK, keys]) (by simp only []; omega)
      | false =>
      cases c4 : d.st != f.st with
      | true =>
       have hRn : R = none := by rw [hR2, if_pos (by simp only [c1, c2, c3, c4, Bool.true_or, Bool.or_true, Bool.or_false, Bool.and_false])]
       simp only [g1, g2, r0, r1, c1, e9, c2, c3, c4, Dat.row, Int.toNat_natCast, q_n1, Nat.add_assoc, List.length_map, go_sem]
       repeat refine sd2 ?_
       refine ⟨okDyn_num (fun x => x.i % 10000) (by simp only [numF, List.map, Nat.mul_add_mod, Nat.reduceMod]; kernel_rfl), ?_⟩
       repeat refine sd2 ?_
       refine ⟨⟨x + 1, i + 1⟩, ⟨by simp only []; omega, key hRn⟩, by simp only []; omega, ?_⟩
       exact Sub.of (hfz hF2) (by simp only [go_sem, subT, and_self, Int.natCast_succ]) trivial (by simp [subK, keys]) (by simp only []; omega)
      | false =>
      cases c5 : d.sq != f.sq with
      | true =>
       have hRn : R = none := by rw [hR2, if_pos (by simp only [c1, c2, c3, c4, c5, Bool.true_or, Bool.or_true, Bool.or_false, Bool.and_false])]
       simp only [g1, g2, r0, r1, c1, e9, c2, c3, c4, c5, Dat.row, Int.toNat_natCast, q_n1, Nat.add_assoc, List.length_map, go_sem]
       repeat refine sd2 ?_
       refine ⟨okDyn_num (fun x => x.i % 10000) (by simp only [numF, List.map, Nat.mul_add_mod, Nat.reduceMod]; kernel_rfl), ?_⟩
       repeat refine sd2 ?_
       refine ⟨⟨x + 1, i + 1⟩, ⟨by simp only []; omega, key hRn⟩, by simp only []; omega, ?_⟩
       exact Sub.of (hfz hF2) (by simp only [go_sem, subT, and_self, Int.natCast_succ]) trivial (by simp [subK, keys]) (by simp only []; omega)
      | false =>
      cases c6 : d.lo == f.lo with
      | false =>
       have hRn : R = none := by rw [hR2, if_pos (by simp only [c1, c2, c3, c4, c5, e10, c6, Bool.not_false, Bool.or_true, Bool.or_false, Bool.and_false])]
       simp only [g1, g2, r0, r1, c1, e9, c2, c3, c4, c5, c6, Dat.row, Int.toNat_natCast, q_n1, Nat.add_assoc, List.length_map, go_sem]
       repeat refine sd2 ?_
       refine ⟨okDyn_num (fun x => x.i % 10000) (by simp only [numF, List.map, Nat.mul_add_mod, Nat.reduceMod]; kernel_rfl), ?_⟩
       repeat refine sd2 ?_
       refine ⟨⟨x + 1, i + 1⟩, ⟨by simp only []; omega, key hRn⟩, by simp only []; omega, ?_⟩
       exact Sub.of (hfz hF2) (by simp only [go_sem, subT, and_self, Int.natCast_succ]) trivial (by simp [subK, keys]) (by simp only []; omega)
      | true =>
      rw [if_neg (by simp only [c1, c2, c3, c4, c5, e10, c6, Bool.not_true, Bool.or_false, Bool.and_false, Bool.false_eq_true, not_false_eq_true])] at hR2
      cases ht : d.tsn == cum with
      | true =>
       rw [ht] at hR2
       simp only [if_true] at hR2
       rw [hr, hR2]
       simp only [ht, Option.getD_some, g1, g2, r0, r1, c1, e9, c2, c3, c4, c5, c6, Dat.row, Int.toNat_natCast, q_n1, q_n2, q_n5, nS2, nS2', Nat.add_assoc, List.length_map, Nat.add_zero, go_sem]
       repeat refine sd2 ?_
       refine ⟨okDyn_num (fun x => x.i % 10000) (by simp only [numF, List.map, Nat.mul_add_mod, Nat.reduceMod]; kernel_rfl), ?_⟩
       repeat refine sd2 ?_
       exact PostF.rs (v0 := .sl ⟨L + 1, 10000 * (i + 1) + 1920⟩ 0 (ns.length + 1) ) (.inr rfl) (hw := by simp [Wk, Tx.look, List.take_of_length_le, eI, q_n1])
      | false =>
       rw [ht] at hR2
       simp only [if_false, Bool.false_eq_true] at hR2
       simp only [ht, g1, g2, r0, r1, c1, e9, c2, c3, c4, c5, c6, Dat.row, Int.toNat_natCast, q_n1, q_n2, q_n5, nS2, nS2', Nat.add_assoc, List.length_map, Nat.add_zero, go_sem]
       repeat refine sd2 ?_
       refine ⟨okDyn_num (fun x => x.i % 10000) (by simp only [numF, List.map, Nat.mul_add_mod, Nat.reduceMod]; kernel_rfl), ?_⟩
       repeat refine sd2 ?_
       refine CallVC.same (behind32R_ok d.tsn (by omega) (by omega)) ?_
       simp only [go_sem]
       repeat refine sd2 ?_
       refine CallVC.same (rAt_ok ps ((d.tsn + 1) % 4294967296) (by omega)) ?_
       have en : (ns ++ [d.tsn]).map eI = ns.map eI ++ [[.int .i64 d.tsn]] := by simp [eI]
       have el : (ns ++ [d.tsn]).length = ns.length + 1 := by simp
       have hpl : idxI (tsnB ((d.tsn + 1) % 4294967296)) ps = -1 ∧ R = none ∨ ∃ j, ∃ hj : j < ps.length, idxI (tsnB ((d.tsn + 1) % 4294967296)) ps = j ∧ R = rcS ps cum f (ps.length + 1 - (ns ++ [d.tsn]).length) ps[j] (ns ++ [d.tsn]) := by
        cases hg : getT ps ((d.tsn + 1) % 4294967296) with
        | none => rw [hg] at hR2; exact .inl ⟨idxI_none hg, hR2⟩
        | some y =>
         rw [hg] at hR2
         obtain ⟨j', hj', a1, a2⟩ := idxI_getT hg
         exact .inr ⟨j', hj', a1, by rw [hR2, a2, el, show ps.length + 1 - (ns.length + 1) = ps.length - ns.length by omega]⟩
       obtain ⟨p', hp'⟩ : ∃ x, x = idxI (tsnB ((d.tsn + 1) % 4294967296)) ps := ⟨_, rfl⟩
       rw [← hp'] at hpl ⊢
       simp only [Nat.add_assoc, go_sem]
       repeat refine sd2 ?_
       refine ⟨⟨p', ns ++ [d.tsn], 10000 * (i + 1) + 1920, i + 1⟩, ⟨by simp only [el]; omega, by simp only []; omega, hpl⟩, by simp only [el]; omega, ?_⟩
       refine Sub.of (hfz hF2) (by simp only [el, go_sem, subT, and_self]) ?_ (by simp [subK, keys]) (by simp only []; omega)
       simp only [en]
       simp [subH, Tx.look, q_n1]
     ·have g2 : decide ((ns.length : Int) ≤ (ps.length : Int)) = false := dF (by omega)
      have hRn : R = none := by rw [hR2, show ps.length + 1 - ns.length = 0 by omega]; rfl
      simp only [g1, g2, Nat.add_assoc, List.length_map, go_sem]
      repeat refine sd2 ?_
      refine ⟨⟨x + 1, i + 1⟩, ⟨by simp only []; omega, key hRn⟩, by simp only []; omega, ?_⟩
      exact Sub.of (hfz hF2) (by simp only [go_sem, subT, and_self, Int.natCast_succ]) trivial (by simp [subK, keys]) (by simp only []; omega)
  ·have f1 : decide ((x : Int) < (ps.length : Int)) = false := dF (by omega)
   rw [List.drop_of_length_le (by omega)] at hr
   rw [hr]
   simp only [f1, List.findSome?_nil, Option.getD_none, List.map_nil, Nat.add_assoc, List.length_map, go_sem]
   repeat refine sd2 ?_
   exact PostF.rs (v0 := .nilS) (.inr rfl)
def skipR (s : StX) (cum : Int) (sk : List (Int × Int)) : StX × List Msg × Int :=
 if s.chk = false then (StX.z, [], 350)
 else if fwdV cum sk = false then (StX.z, [], 320)
 else if sk.any (fun k => decide ((s.inn.length : Int) ≤ k.1)) = true then (StX.z, [], 2)
 else ({ s with inn := (skipG s.inn s.ps cum sk).1, ps := (skipG s.inn s.ps cum sk).2.1 }, (skipG s.inn s.ps cum sk).2.2, 0)
theorem skipAll_ok {F : SF} {L nx : Nat} (s : StX) (hs : s.Le 1000) (cum : Int) (sk : List (Int × Int)) (hsk : sk.length ≤ 1000) : Con Tryz.prog 37 [s.v, fwdP cum sk] F L nx nx (ansV (skipR s cum sk)) [] [] := by
 obtain ⟨out, inn, ps, num, seen, asked⟩ := s
 obtain ⟨ho, hi, hpl, ha2⟩ := hs
 simp only at ho hi hpl ha2
 have f9 : ((350 : Int) != 0) = true := rfl
 have f8 : ((320 : Int) != 0) = true := rfl
 have f0 : ((0 : Int) != 0) = false := rfl
 cases hc : chkB out inn num seen asked ps with
 | false =>
  have hv : skipR ⟨out, inn, ps, num, seen, asked⟩ cum sk = (StX.z, [], 350) := by simp only [skipR, StX.chk, hc, if_true]
  rw [hv, ansV_err]
  have hb := fun F L nx => begin_bad (F := F) (L := L) (nx := nx) out inn asked num seen ps (by omega) (by omega) (by omega) (by omega) hc
  simp only [strV] at hb
  refine bdy Tryz.f37 ?_
  intro F3 hF1 hF2
  simp only [Tryz.f37, cx, StX.v, strV, fwdP, go_sem, meths]
  refine CallVC.same (hb _ _ _) ?_
  simp only [f9, go_sem]
  repeat refine sd2 ?_
  exact PostF.rs (v0 := .tup [.agg [.nilS, .nilS, .nilS, .int .i64 0, .int .i64 0, .nilS], .nilS, .int .i64 350]) (.inr rfl)
 | true =>
 obtain ⟨hS, hP, hD⟩ := chkB_ok hc (by omega)
 have hbg : ∀ F L nx, Con Tryz.prog 54 [strV out inn num seen asked ps] F L nx (nx + 5) (.tup [.ptr ⟨L, nx⟩ 0 0, .int .i64 0]) (stU L nx out inn asked num seen ps) [] := fun F L nx => begin_ok out inn asked num seen hS ps hP hD
 simp only [strV, stU] at hbg
 have hpf := fun F L nx => putForward_ok (F := F) (L := L) (nx := nx) cum sk (by omega)
 cases hf : fwdV cum sk with
 | false =>
  have hv : skipR ⟨out, inn, ps, num, seen, asked⟩ cum sk = (StX.z, [], 320) := by simp only [skipR, StX.chk, hc, hf, if_true, if_false, Bool.true_eq_false]
  rw [hv, ansV_err]
  simp only [hf, Bool.false_eq_true, if_false, fwdP] at hpf
  refine bdy Tryz.f37 ?_
  intro F3 hF1 hF2
  simp only [Tryz.f37, cx, StX.v, strV, fwdP, go_sem, meths]
  refine CallVC.same (hbg _ _ _) ?_
  simp only [f0, go_sem]
  repeat refine sd2 ?_
  refine CallVC.same (hpf _ _ _) ?_
  simp only [f8, go_sem]
  repeat refine sd2 ?_
  exact PostF.rs (v0 := .tup [.agg [.nilS, .nilS, .nilS, .int .i64 0, .int .i64 0, .nilS], .nilS, .int .i64 320]) (.inr rfl)
 | true =>
 cases ha : sk.any (fun k => decide ((inn.length : Int) ≤ k.1)) with
 | true =>
  have hv : skipR ⟨out, inn, ps, num, seen, asked⟩ cum sk = (StX.z, [], 2) := by simp only [skipR, StX.chk, hc, hf, ha, if_true, if_false, Bool.true_eq_false]
  rw [hv, ansV_err]
  simp only [hf, if_true, fwdP] at hpf
  refine bdy Tryz.f37 ?_
  intro F3 hF1 hF2
  simp only [Tryz.f37, cx, StX.v, strV, fwdP, go_sem, meths]
  refine CallVC.same (hbg _ _ _) ?_
  simp only [f0, go_sem]
  repeat refine sd2 ?_
  refine CallVC.same (hpf _ _ _) ?_
  simp only [f0, go_sem]
  repeat refine sd2 ?_
  refine CallVC.same (containsFunc2_ok sk 78 [] [.ptr ⟨L + 1, 0⟩ 0 0] (fun k => decide ((inn.length : Int) ≤ k.1)) [⟨L + 1, 0⟩] (by simp) (by omega) (fun x hx L' nx' hL => skip1_ok x ⟨L + 1, 0⟩ hL 41 true true (.fs 1 (out.map eI)) (.fs 8 (ps.map Dat.row)) (.int .i64 num) (.int .i64 seen) (.fs 1 (asked.map eI)) inn (by simp))) ?_
  rw [ha]
  simp only [go_sem]
  repeat refine sd2 ?_
  exact PostF.rs (v0 := .tup [.agg [.nilS, .nilS, .nilS, .int .i64 0, .int .i64 0, .nilS], .nilS, .int .i64 2]) (.inr rfl)
 | false =>
  have hv : skipR ⟨out, inn, ps, num, seen, asked⟩ cum sk = (⟨out, (skipG inn ps cum sk).1, (skipG inn ps cum sk).2.1, num, seen, asked⟩, (skipG inn ps cum sk).2.2, 0) := by simp only [skipR, StX.chk, hc, hf, ha, if_false, Bool.true_eq_false, Bool.false_eq_true]
  rw [hv]
  exact skip_ok out inn asked num seen hS ps hP hD cum sk hf ha
theorem rcS_len (ps : List Dat) (cum : Int) (f : Dat) : ∀ (k : Nat) (d : Dat) (ns l : List Int), rcS ps cum f k d ns = some l → l.length ≤ ns.length + k
 | 0, _, _, _, h => by simp [rcS] at h
 | k + 1, d, ns, l, h => by
  rw [rcS] at h
  split at h
  ·cases h
  ·split at h
   ·injection h with h; rw [← h]; simp
   ·split at h
    ·cases h
    ·have := rcS_len ps cum f k _ _ _ h; simp at this; omega
theorem rcut_len {ps : List Dat} {cum : Int} {l : List Int} (h : rcut ps cum = some l) : l.length ≤ ps.length + 1 := by
 unfold rcut at h
 obtain ⟨f, hf, h1⟩ := List.exists_of_findSome?_eq_some h
 unfold rcF at h1
 split at h1
 ·simpa using rcS_len _ _ _ _ _ _ _ h1
 ·cases h1
structure RqX where
 x : Nat
 i : Nat
structure RpX where
 j : Nat
 q : Nat
 i : Nat
theorem refSkipAll_ok {F : SF} {L nx : Nat} (s : StX) (hs : s.Le 1000) (cum : Int) (sk : List (Int × Int)) (hsk : sk.length ≤ 1000) : Con Tryz.prog 63 [s.v, fwdP cum sk] F L nx nx (ansV (skipR s cum sk)) [] [] := by
 obtain ⟨out, inn, ps, num, seen, asked⟩ := s
 obtain ⟨ho, hi, hpl, ha2⟩ := hs
 simp only at ho hi hpl ha2
 have hri := fun F L nx => right_ok (F := F) (L := L) (nx := nx) out inn asked num seen ps (by omega) (by omega) (by omega) (by omega)
 have hrf := fun F L nx => rightForward_ok (F := F) (L := L) (nx := nx) cum sk (by omega)
 simp only [strV, fwdP] at hri hrf
 cases hc : chkB out inn num seen asked ps with
 | false =>
  have hv : skipR ⟨out, inn, ps, num, seen, asked⟩ cum sk = (StX.z, [], 350) := by simp only [skipR, StX.chk, hc, if_true]
  rw [hv, ansV_err]
  rw [hc] at hri
  refine bdy Tryz.f63 ?_
  intro F3 hF1 hF2
  simp only [Tryz.f63, cx, StX.v, strV, fwdP, go_sem, meths]
  refine CallVC.same (hri _ _ _) ?_
  simp only [go_sem]
  repeat refine sd2 ?_
  exact PostF.rs (v0 := .tup [.agg [.nilS, .nilS, .nilS, .int .i64 0, .int .i64 0, .nilS], .nilS, .int .i64 350]) (.inr rfl)
 | true =>
 obtain ⟨hS, hP, hD⟩ := chkB_ok hc (by omega)
 rw [hc] at hri
 cases hf : fwdV cum sk with
 | false =>
  have hv : skipR ⟨out, inn, ps, num, seen, asked⟩ cum sk = (StX.z, [], 320) := by simp only [skipR, StX.chk, hc, hf, if_true, if_false, Bool.true_eq_false]
  rw [hv, ansV_err]
  rw [hf] at hrf
  refine bdy Tryz.f63 ?_
  intro F3 hF1 hF2
  simp only [Tryz.f63, cx, StX.v, strV, fwdP, go_sem, meths]
  refine CallVC.same (hri _ _ _) ?_
  simp only [go_sem]
  repeat refine sd2 ?_
  refine CallVC.same (hrf _ _ _) ?_
  simp only [go_sem]
  repeat refine sd2 ?_
  exact PostF.rs (v0 := .tup [.agg [.nilS, .nilS, .nilS, .int .i64 0, .int .i64 0, .nilS], .nilS, .int .i64 320]) (.inr rfl)
 | true =>
 rw [hf] at hrf
 obtain ⟨hk1, hc0, hc1, hk3⟩ := okSk_bounds hf
 have hp80 := hP.len
 have ho2 := hS.o2
 have hi2 := hS.i2
 have hco := fun F L nx => copied_ok (F := F) (L := L) (nx := nx) out inn asked num seen ps (by omega) (by omega) (by omega) (by omega)
 simp only [strV] at hco
 refine bdy Tryz.f63 ?_
 intro F3 hF1 hF2
 simp only [Tryz.f63, cx, StX.v, strV, fwdP, go_sem, meths]
 refine CallVC.same (hri _ _ _) ?_
 simp only [go_sem]
 repeat refine sd2 ?_
 refine CallVC.same (hrf _ _ _) ?_
 simp only [go_sem]
 repeat refine sd2 ?_
 refine loopK.intro _ _ (I := fun i : Nat => ⟨[none, none, some (.ptr ⟨L + 1, 0⟩ 0 0), some (.ptr ⟨L + 1, 32⟩ 0 0), some (.ptr ⟨L + 1, 64⟩ 0 0), none, none, some (.int .i64 i), none, none, none, none, none, none, none, none, none, none, none, none, none, none, none, none, none, none, none, none, none, none, none, none, none, none, none, none, none, none, none, none, none, none, none, none, none, none, none, none, none, none, none, none, none, none, none, none, none, none, none, none, none, none, none, none, none, none, none, none, none, none, none, none, none, none, none, none, none, none, none, none, none, none, none, none, none, none, none, none, none, none, none, none, none, none, none, none, none, none, none, none, none, none, none, none, none, none, none, none, none, none, none, none, none, none, none, none, none, none, none, none, none, none, none, none, none, none, none, none, none, none, none, none],
  [(⟨L + 1, 0⟩, .rows 41 6 true true [[.fs 1 (out.map eI), .fs 1 (inn.map eI), .fs 8 (ps.map Dat.row), .int .i64 num, .int .i64 seen, .fs 1 (asked.map eI)]]), (⟨L + 1, 32⟩, .rows 63 2 true true [[.int .i64 cum, .fs 2 (sk.map kE)]]), (⟨L + 1, 64⟩, .rows 41 6 true true [[.nilS, .nilS, .nilS, .int .i64 0, .int .i64 0, .nilS]])], if i = sk.length then 1000000 else 10000 * (i + 1)⟩)
  (pre := fun i => i ≤ sk.length ∧ ∀ j, j < i → (sk.getD j (0, 0)).1 < inn.length) (μ := fun i => sk.length - i) 0 ⟨by omega, fun j h => by omega⟩ ?_ ?_
 ·refine Sub.of (hfz hF2) (by simp only [go_sem, subT, and_self, Int.natCast_zero]) ?_ (by simp [subK, keys]) (by simp only []; split <;> omega)
  simp [subH, Tx.look]
 ·rintro i ⟨hi0, hp⟩
  by_cases hlt : i < sk.length
  ·have hiN : (i = sk.length) = False := by apply eq_false; omega
   have f1 : decide ((i : Int) < (sk.length : Int)) = true := dT (by omega)
   have r0 := rowK hlt
   obtain ⟨k, hk⟩ : ∃ k, k = sk.getD i (0, 0) := ⟨_, rfl⟩
   rw [← hk] at r0
   have hkm : k ∈ sk := by rw [hk]; simp [List.getD_eq_getElem?_getD, hlt]
   by_cases hb : (inn.length : Int) ≤ k.1
   ·have f2 : decide ((inn.length : Int) ≤ k.1) = true := dT hb
    have ha : sk.any (fun k => decide ((inn.length : Int) ≤ k.1)) = true := List.any_eq_true.2 ⟨k, hkm, f2⟩
    have hv : skipR ⟨out, inn, ps, num, seen, asked⟩ cum sk = (StX.z, [], 2) := by simp only [skipR, StX.chk, hc, hf, ha, if_true, if_false, Bool.true_eq_false]
    rw [hv, ansV_err]
    simp only [f1, f2, r0, kE, hiN, if_false, Int.toNat_natCast, Nat.add_assoc, List.length_map, Nat.add_zero, go_sem]
    repeat refine sd2 ?_
    refine ⟨okDyn_num (fun x => x.i % 10000) (by simp only [numF, List.map, Nat.reduceMod]; kernel_rfl), ?_⟩
    repeat refine sd2 ?_
    exact PostF.rs (v0 := .tup [.agg [.nilS, .nilS, .nilS, .int .i64 0, .int .i64 0, .nilS], .nilS, .int .i64 2]) (.inr rfl)
   ·have f2 : decide ((inn.length : Int) ≤ k.1) = false := dF hb
    simp only [f1, f2, r0, kE, hiN, if_false, Int.toNat_natCast, Nat.add_assoc, List.length_map, Nat.add_zero, go_sem]
    repeat refine sd2 ?_
    refine ⟨okDyn_num (fun x => x.i % 10000) (by simp only [numF, List.map, Nat.reduceMod]; kernel_rfl), ?_⟩
    repeat refine sd2 ?_
    refine ⟨i + 1, ⟨by omega, fun j hj => ?_⟩, by omega, ?_⟩
    ·by_cases he : j = i
     ·subst he; rw [← hk]; omega
     ·exact hp j (by omega)
    ·refine Sub.of (hfz hF2) (by simp only [go_sem, subT, and_self, Int.natCast_succ]) ?_ (by simp [subK, keys]) (by simp only []; split <;> omega)
     simp [subH, Tx.look]
  ·have f1 : decide ((i : Int) < (sk.length : Int)) = false := dF (by omega)
   have e : i = sk.length := by omega
   subst e
   have ha : sk.any (fun k => decide ((inn.length : Int) ≤ k.1)) = false := by
    rw [List.any_eq_false]
    intro k hk
    obtain ⟨j, hj, rfl⟩ := List.getElem_of_mem hk
    have := hp j hj
    rw [List.getD_eq_getElem?_getD, List.getElem?_eq_getElem hj, Option.getD_some] at this
    simp; omega
   have hk2 : ∀ k ∈ sk, k.1 < inn.length := by
    intro k hk
    rw [List.any_eq_false] at ha
    have := ha k hk
    simp at this; omega
   have hv : skipR ⟨out, inn, ps, num, seen, asked⟩ cum sk = (⟨out, (skipG inn ps cum sk).1, (skipG inn ps cum sk).2.1, num, seen, asked⟩, (skipG inn ps cum sk).2.2, 0) := by simp only [skipR, StX.chk, hc, hf, ha, if_false, Bool.true_eq_false, Bool.false_eq_true]
   rw [hv, ansV_ok]
   clear hi0 hlt hp
   simp only [f1, if_true, List.length_map, go_sem]
   repeat refine sd2 ?_
   refine CallVC.same (hco _ _ _) ?_
   simp only [go_sem]
   repeat refine sd2 ?_
   refine loopK.intro _ _ (I := fun z : RqX => ⟨[none, none, some (.ptr ⟨L + 1, 0⟩ 0 0), some (.ptr ⟨L + 1, 32⟩ 0 0), some (.ptr ⟨L + 1, 64⟩ 0 0), none, none, none, some (.int .i64 z.x), none, none, none, none, none, none, none, none, none, none, none, none, none, none, none, none, none, none, none, none, none, none, none, none, none, none, none, none, none, none, none, none, none, none, none, none, none, none, none, none, none, none, none, none, none, none, none, none, none, none, none, none, none, none, none, none, none, none, none, none, none, none, none, none, none, none, none, none, none, none, none, none, none, none, none, none, none, none, none, none, none, none, none, none, none, none, none, none, none, none, none, none, none, none, none, none, none, none, none, none, none, none, none, none, none, none, none, none, none, none, none, none, none, none, none, none, none, none, none, none, none, none, none],
    [(⟨L + 1, 0⟩, .rows 41 6 true false [[.sl ⟨L + 1, 1000192⟩ 0 out.length, .sl ⟨L + 1, 1000193⟩ 0 inn.length, .fs 8 ((skipL inn ps (sk.take z.x)).2.map Dat.row), .int .i64 num, .int .i64 seen, .sl ⟨L + 1, 1000195⟩ 0 asked.length]]), (⟨L + 1, 32⟩, .rows 63 2 true true [[.int .i64 cum, .fs 2 (sk.map kE)]]), (⟨L + 1, 64⟩, .rows 41 6 true true [[.nilS, .nilS, .nilS, .int .i64 0, .int .i64 0, .nilS]]), (⟨L + 1, 1000192⟩, .rows 3 1 true true (out.map eI)), (⟨L + 1, 1000193⟩, .rows 3 1 true true ((skipL inn ps (sk.take z.x)).1.map eI)), (⟨L + 1, 1000195⟩, .rows 3 1 true true (asked.map eI))], 10000 * (z.i + 1)⟩)
    (pre := fun z => z.x ≤ sk.length ∧ 200 ≤ z.i) (μ := fun z => sk.length - z.x) ⟨0, 200⟩ ⟨by simp, by simp⟩ ?_ ?_
   ·refine Sub.trans (Sub.freeze (n := ⟨L + 1, 0⟩) (e := 41) (wd := 6) (o := true) (rs := [[.sl ⟨L + 1, 1000192⟩ 0 out.length, .sl ⟨L + 1, 1000193⟩ 0 inn.length, .sl ⟨L + 1, 1000194⟩ 0 ps.length, .int .i64 num, .int .i64 seen, .sl ⟨L + 1, 1000195⟩ 0 asked.length]]) [[.sl ⟨L + 1, 1000192⟩ 0 out.length, .sl ⟨L + 1, 1000193⟩ 0 inn.length, .fs 8 (ps.map Dat.row), .int .i64 num, .int .i64 seen, .sl ⟨L + 1, 1000195⟩ 0 asked.length]] (by simp [Tx.look]) (by simp [WkLL, WkL, Wk, Tx.look, List.take_of_length_le]) (by simp [wkNLL, wkNL, wkN])) ?_
    refine Sub.of (hfz hF2) (by simp only [go_sem, subT, and_self, Int.natCast_zero]) ?_ ?_ (by simp)
    ·simp [subH, Tx.look, updH, setH, skipL, unown, wkNLL, wkNL, wkN]
    ·simp [subK, keys, updH, setH, unown, wkNLL, wkNL, wkN, Tx.look]
   ·rintro ⟨x, i⟩ ⟨hx, hi⟩
    simp only at hx hi ⊢
    have nd1 : ∀ k, k < 2000000 → (10000 * (i + 1) = k) = False := fun k h => by apply eq_false; omega
    have nd2 : ∀ k, k < 2000000 → (k = 10000 * (i + 1)) = False := fun k h => by apply eq_false; omega
    obtain ⟨v1, v2, v3⟩ := skipL_ok (sk.take x) (inn, ps) hP hS.i3 (fun k hk => (hk1 k (List.mem_of_mem_take hk)).1)
    obtain ⟨z, hz⟩ : ∃ z, z = skipL inn ps (sk.take x) := ⟨_, rfl⟩
    rw [show (sk.take x).foldl skipStep (inn, ps) = z from hz.symm] at v1 v2 v3
    simp only at v3
    rw [← hz]
    by_cases hlt : x < sk.length
    ·have f1 : decide ((x : Int) < (sk.length : Int)) = true := dT (by omega)
     have r0 := rowK hlt
     obtain ⟨k, hk⟩ : ∃ k, k = sk.getD x (0, 0) := ⟨_, rfl⟩
     have hkm : k ∈ sk := by rw [hk]; simp [List.getD_eq_getElem?_getD, hlt]
     rw [← hk] at r0
     obtain ⟨a1, a2, a3⟩ := hk1 k hkm
     have a4 := hk2 k hkm
     have r1 := getD_eI z.1 (i := k.1.toNat) (by omega)
     obtain ⟨b1, b2⟩ := serB16_at v2 (k := k.1.toNat) (by omega)
     have hz1 : skipL inn ps (sk.take (x + 1)) = skipStep z k := by
      unfold skipL
      rw [List.take_succ_eq_append_getElem hlt, List.foldl_append, hz]
      simp only [List.foldl_cons, List.foldl_nil]
      rw [show sk[x] = k by rw [hk]; simp [List.getD_eq_getElem?_getD, hlt]]
      rfl
     simp only [f1, r0, r1, kE, eI, v3, Int.toNat_natCast, Nat.add_assoc, List.length_map, Nat.add_zero, go_sem]
     repeat refine sd2 ?_
     refine ⟨okDyn_num (fun x => x.i % 10000) (by simp only [numF, List.map, Nat.reduceMod]; kernel_rfl), ?_⟩
     repeat refine sd2 ?_
     refine CallVC.same (rLead16_ok k.2 (z.1.getD k.1.toNat 0) a2 a3 b1 b2) ?_
     unfold skipStep at hz1
     cases hle : decide (0 ≤ lead k.2 (z.1.getD k.1.toNat 0) 16) with
     | false =>
      rw [if_neg (by simpa using hle)] at hz1
      simp only [hle, Nat.add_assoc, go_sem]
      repeat refine sd2 ?_
      refine ⟨⟨x + 1, i + 1⟩, ⟨by simp only []; omega, by simp only []; omega⟩, by simp only []; omega, ?_⟩
      refine Sub.o hF2 ?_
      simp [subH, Tx.look, hz1]
     | true =>
      rw [if_pos (by simpa using hle)] at hz1
      simp only [hle, Nat.add_assoc, go_sem]
      repeat refine sd2 ?_
      have hnx := fun F L nx m mo ma ol al hm hmo hma hFm => refNext_ok (F := F) (L := L) (nx := nx) m mo ma ol al hm hmo hma num seen k.1 k.2 z.1 v2 a1 (by omega) a2 a3 (by omega) z.2 (by have := v1.len; omega) (fun x hx => (partOk_ok (v1.all x hx)).1) hFm
      rw [v3] at hnx
      refine CallVC.same (hnx _ _ _ ⟨L + 1, 1000193⟩ ⟨L + 1, 1000192⟩ ⟨L + 1, 1000195⟩ out.length asked.length (.inr ⟨rfl, by simp only []; omega⟩) (Nat.le_refl _) (Nat.le_refl _) (by simp)) ?_
      simp only [Nat.add_assoc, go_sem]
      repeat refine sd2 ?_
      refine ⟨⟨x + 1, i + 1⟩, ⟨by simp only []; omega, by simp only []; omega⟩, by simp only []; omega, ?_⟩
      refine Sub.o hF2 ?_
      simp [subH, Tx.look, hz1]
    ·have f1 : decide ((x : Int) < (sk.length : Int)) = false := dF (by omega)
     have e : x = sk.length := by omega
     subst e
     have e3 : sk.take sk.length = sk := List.take_of_length_le (by omega)
     rw [e3] at hz
     have hct := fun F L nx => refCut_ok (F := F) (L := L) (nx := nx) z.2 v1.len (fun x hx => (partOk_ok (v1.all x hx)).1) cum
     obtain ⟨K, hK⟩ : ∃ x, x = (rcut z.2 cum).getD [] := ⟨_, rfl⟩
     rw [← hK] at hct
     have hKl : K.length ≤ 1000 := by
      rw [hK]
      cases hr : rcut z.2 cum with
      | none => simp
      | some l => exact Nat.le_trans (rcut_len hr) (by have := v1.len; omega)
     have hkeep : ∀ d : Dat, skB cum (cutG z.2 cum) d = (d.lo && decide (lead d.tsn cum 32 ≤ 0) && !K.contains d.tsn) := by
      intro d
      unfold skB
      rw [hK, kept_iff v1.len v1.nodup (fun d hd => by have := Dat.ok_bounds (partOk_ok (v1.all d hd)).1; omega) ⟨hc0, hc1⟩]
     simp only [f1, Nat.add_assoc, List.length_map, Nat.add_zero, go_sem]
     repeat refine sd2 ?_
     refine CallVC.same (hct _ _ _) ?_
     simp only [Nat.add_assoc, go_sem]
     repeat refine sd2 ?_
     obtain ⟨h0, hh0⟩ : ∃ h : Dat → Bool, h = skB cum (cutG z.2 cum) := ⟨_, rfl⟩
     refine loopK.intro _ _ (I := fun y : RpX => ⟨[none, none, some (.ptr ⟨L + 1, 0⟩ 0 0), some (.ptr ⟨L + 1, 32⟩ 0 0), some (.ptr ⟨L + 1, 64⟩ 0 0), none, none, none, none, none, none, some (.fs 1 (K.map eI)), some (.sl ⟨L + 1, y.q⟩ 0 (kept h0 z.2 y.j).length), some (.int .i64 y.j), none, none, none, none, none, none, none, none, none, none, none, none, none, none, none, none, none, none, none, none, none, none, none, none, none, none, none, none, none, none, none, none, none, none, none, none, none, none, none, none, none, none, none, none, none, none, none, none, none, none, none, none, none, none, none, none, none, none, none, none, none, none, none, none, none, none, none, none, none, none, none, none, none, none, none, none, none, none, none, none, none, none, none, none, none, none, none, none, none, none, none, none, none, none, none, none, none, none, none, none, none, none, none, none, none, none, none, none, none, none, none, none, none, none, none, none, none, none],
      [(⟨L + 1, 0⟩, .rows 41 6 true false [[.sl ⟨L + 1, 1000192⟩ 0 out.length, .sl ⟨L + 1, 1000193⟩ 0 inn.length, .fs 8 (z.2.map Dat.row), .int .i64 num, .int .i64 seen, .sl ⟨L + 1, 1000195⟩ 0 asked.length]]), (⟨L + 1, 32⟩, .rows 63 2 true true [[.int .i64 cum, .fs 2 (sk.map kE)]]), (⟨L + 1, 64⟩, .rows 41 6 true true [[.nilS, .nilS, .nilS, .int .i64 0, .int .i64 0, .nilS]]), (⟨L + 1, 1000192⟩, .rows 3 1 true true (out.map eI)), (⟨L + 1, 1000193⟩, .rows 3 1 true true (z.1.map eI)), (⟨L + 1, 1000195⟩, .rows 3 1 true true (asked.map eI)), (⟨L + 1, y.q⟩, .rows 32 8 true true ((kept h0 z.2 y.j).map Dat.row))], 10000 * (y.i + 1)⟩)
      (pre := fun y => y.j ≤ z.2.length ∧ 200 ≤ y.i ∧ 2000000 ≤ y.q ∧ y.q < 10000 * (y.i + 1)) (μ := fun y => z.2.length - y.j) ⟨0, 10000 * (i + 1) + 384, i + 1⟩ ⟨by simp, by simp only []; omega, by simp only []; omega, by simp only []; omega⟩ ?_ ?_
     ·have e0 : kept h0 z.2 0 = [] := rfl
      refine Sub.trans (Sub.nilName 12 32 (wd := 8) (by omega) rfl) ?_
      refine Sub.of (hfz hF2) (by simp only [e0, List.length_nil, go_sem, subT, and_self, Int.natCast_zero]) ?_ (by simp [subK, keys, updH, setH, nd1]) (by simp only []; omega)
      simp [subH, Tx.look, updH, setH, e0, nd1]
     ·clear nd1 nd2 hi i
      rintro ⟨j, q, i⟩ ⟨hj0, hi, hq1, hq2⟩
      simp only at hj0 hi hq1 hq2 ⊢
      have nd1 : ∀ k, k < 2000000 → (10000 * (i + 1) = k) = False := fun k h => by apply eq_false; omega
      have nd2 : ∀ k, k < 2000000 → (k = 10000 * (i + 1)) = False := fun k h => by apply eq_false; omega
      have q_0 : (q = 0) = False := by apply eq_false; omega
      have n0_q : (0 = q) = False := by apply eq_false; omega
      have q_32 : (q = 32) = False := by apply eq_false; omega
      have n32_q : (32 = q) = False := by apply eq_false; omega
      have q_64 : (q = 64) = False := by apply eq_false; omega
      have n64_q : (64 = q) = False := by apply eq_false; omega
      have q_1000192 : (q = 1000192) = False := by apply eq_false; omega
      have n1000192_q : (1000192 = q) = False := by apply eq_false; omega
      have q_1000193 : (q = 1000193) = False := by apply eq_false; omega
      have n1000193_q : (1000193 = q) = False := by apply eq_false; omega
      have q_1000195 : (q = 1000195) = False := by apply eq_false; omega
      have n1000195_q : (1000195 = q) = False := by apply eq_false; omega
      have q_n1 : ∀ kk, (10000 * (i + 1) + kk = q) = False := fun kk => by apply eq_false; omega
      have q_n2 : ∀ kk, (q = 10000 * (i + 1) + kk) = False := fun kk => by apply eq_false; omega
      have q_n3 : (10000 * (i + 1) = q) = False := by apply eq_false; omega
      have q_n4 : (q = 10000 * (i + 1)) = False := by apply eq_false; omega
      have q_n5 : ∀ kk, ((⟨L + 1, q⟩ : Nm) == ⟨L + 1, 10000 * (i + 1) + kk⟩) = false := fun kk => by simp; omega
      have hkl := kept_len h0 z.2 j
      have hzl := v1.len
      by_cases hj : j < z.2.length
      ·have f1 : decide ((j : Int) < (z.2.length : Int)) = true := dT (by omega)
       have r0 := rowD hj
       have hdm := List.getElem_mem hj
       have hks := kept_succ (h := h0) hj
       obtain ⟨d, hd⟩ : ∃ d, d = z.2[j] := ⟨_, rfl⟩
       rw [← hd] at r0 hdm hks
       have hok := Dat.ok_bounds (partOk_ok (v1.all d hdm)).1
       have hkd := hkeep d
       rw [← hh0] at hkd
       obtain ⟨U, hU⟩ : ∃ K, K = kept h0 z.2 j := ⟨_, rfl⟩
       rw [← hU] at hks hkl ⊢
       have hha := fun F L nx => has_ok (F := F) (L := L) (nx := nx) K d.tsn (by omega)
       rw [show K.any (hasP d.tsn) = K.contains d.tsn by rw [List.contains_eq_any_beq]; congr 1; funext x; rw [Bool.eq_iff_iff]; simp only [hasP, beq_iff_eq]; exact eq_comm] at hha
       cases hlo : d.lo with
       | false =>
        rw [hlo, Bool.false_and, Bool.false_and] at hkd
        have e1 : (kept h0 z.2 (j + 1)).map Dat.row = U.map Dat.row ++ [[.int .i64 d.tsn, .int .i64 d.st, .int .i64 d.sq, .int .i64 d.pr, .bool d.fi, .bool d.la, .bool d.lo, .str d.pl]] := by rw [hks, hkd]; simp [Dat.row]
        have e2 : (kept h0 z.2 (j + 1)).length = U.length + 1 := by rw [hks, hkd]; simp
        simp only [f1, r0, hlo, Dat.row, Int.toNat_natCast, q_0, n0_q, q_32, q_64, q_1000192, q_1000193, q_1000195, q_n1, q_n2, q_n5, nd1, nS2, Nat.add_assoc, List.length_map, go_sem]
        repeat refine sd2 ?_
        refine ⟨okDyn_num (fun x => x.i % 10000) (by simp only [numF, List.map, Nat.reduceMod]; kernel_rfl), ?_⟩
        repeat refine sd2 ?_
        refine ⟨⟨j + 1, 10000 * (i + 1) + 736, i + 1⟩, ⟨by simp only []; omega, by simp only []; omega, by simp only []; omega, by simp only []; omega⟩, by simp only []; omega, ?_⟩
        refine Sub.of (hfz hF2) (by simp only [e2, go_sem, subT, and_self, Int.natCast_succ]) ?_ (by simp [subK, keys]) (by simp only []; omega)
        simp only [e1, hlo, go_sem]
        simp [subH, Tx.look, q_n1, nd1]
       | true =>
        rw [hlo, Bool.true_and] at hkd
        simp only [f1, r0, hlo, Dat.row, Int.toNat_natCast, n0_q, n32_q, Nat.add_assoc, List.length_map, Nat.add_zero, go_sem]
        repeat refine sd2 ?_
        refine CallVC.same (rLead32_ok d.tsn cum (by omega) (by omega) hc0 hc1) ?_
        by_cases hle : lead d.tsn cum 32 ≤ 0
        ·have g1 : decide (0 < lead d.tsn cum 32) = false := dF (by omega)
         rw [dT hle, Bool.true_and] at hkd
         simp only [r0, hlo, g1, Dat.row, Int.toNat_natCast, n0_q, Nat.add_assoc, List.length_map, Nat.add_zero, go_sem]
         repeat refine sd2 ?_
         refine CallVC.same (hha _ _ _) ?_
         cases hct2 : K.contains d.tsn with
         | true =>
          rw [hct2, Bool.not_true] at hkd
          have e1 : (kept h0 z.2 (j + 1)).map Dat.row = U.map Dat.row ++ [[.int .i64 d.tsn, .int .i64 d.st, .int .i64 d.sq, .int .i64 d.pr, .bool d.fi, .bool d.la, .bool d.lo, .str d.pl]] := by rw [hks, hkd]; simp [Dat.row]
          have e2 : (kept h0 z.2 (j + 1)).length = U.length + 1 := by rw [hks, hkd]; simp
          simp only [r0, hlo, Dat.row, Int.toNat_natCast, q_0, n0_q, q_32, q_64, q_1000192, q_1000193, q_1000195, q_n1, q_n2, q_n5, nd1, nS2, Nat.add_assoc, List.length_map, go_sem]
          repeat refine sd2 ?_
          refine ⟨okDyn_num (fun x => x.i % 10000) (by simp only [numF, List.map, Nat.reduceMod]; kernel_rfl), ?_⟩
          repeat refine sd2 ?_
          refine ⟨⟨j + 1, 10000 * (i + 1) + 1248, i + 1⟩, ⟨by simp only []; omega, by simp only []; omega, by simp only []; omega, by simp only []; omega⟩, by simp only []; omega, ?_⟩
          refine Sub.of (hfz hF2) (by simp only [e2, go_sem, subT, and_self, Int.natCast_succ]) ?_ (by simp [subK, keys]) (by simp only []; omega)
          simp only [e1, hlo, go_sem]
          simp [subH, Tx.look, q_n1, nd1]
         | false =>
          rw [hct2, Bool.not_false] at hkd
          have e1 : kept h0 z.2 (j + 1) = U := by rw [hks, hkd]; simp
          simp only [Nat.add_assoc, go_sem]
          repeat refine sd2 ?_
          refine ⟨okDyn_num (fun x => x.i % 10000) (by simp only [numF, List.map, Nat.reduceMod]; kernel_rfl), ?_⟩
          repeat refine sd2 ?_
          refine ⟨⟨j + 1, q, i + 1⟩, ⟨by simp only []; omega, by simp only []; omega, by simp only []; omega, by simp only []; omega⟩, by simp only []; omega, ?_⟩
          refine Sub.of (hfz hF2) (by simp only [e1, go_sem, subT, and_self, Int.natCast_succ]) ?_ (by simp [subK, keys]) (by simp only []; omega)
          simp only [e1]
          simp [subH, Tx.look, q_0, q_32, q_64, q_1000192, q_1000193, q_1000195]
        ·have g1 : decide (0 < lead d.tsn cum 32) = true := dT (by omega)
         rw [dF hle, Bool.false_and] at hkd
         have e1 : (kept h0 z.2 (j + 1)).map Dat.row = U.map Dat.row ++ [[.int .i64 d.tsn, .int .i64 d.st, .int .i64 d.sq, .int .i64 d.pr, .bool d.fi, .bool d.la, .bool d.lo, .str d.pl]] := by rw [hks, hkd]; simp [Dat.row]
         have e2 : (kept h0 z.2 (j + 1)).length = U.length + 1 := by rw [hks, hkd]; simp
         simp only [r0, hlo, g1, Dat.row, Int.toNat_natCast, q_0, n0_q, q_32, q_64, q_1000192, q_1000193, q_1000195, q_n1, q_n2, q_n5, nd1, nS2, Nat.add_assoc, List.length_map, go_sem]
         repeat refine sd2 ?_
         refine ⟨okDyn_num (fun x => x.i % 10000) (by simp only [numF, List.map, Nat.reduceMod]; kernel_rfl), ?_⟩
         repeat refine sd2 ?_
         refine ⟨⟨j + 1, 10000 * (i + 1) + 1024, i + 1⟩, ⟨by simp only []; omega, by simp only []; omega, by simp only []; omega, by simp only []; omega⟩, by simp only []; omega, ?_⟩
         refine Sub.of (hfz hF2) (by simp only [e2, go_sem, subT, and_self, Int.natCast_succ]) ?_ (by simp [subK, keys]) (by simp only []; omega)
         simp only [e1, hlo, go_sem]
         simp [subH, Tx.look, q_n1, nd1]
      ·have f1 : decide ((j : Int) < (z.2.length : Int)) = false := dF (by omega)
       have e : j = z.2.length := by omega
       subst e
       have hQ := v1.without h0
       have eK : kept h0 z.2 z.2.length = withoutG z.2 h0 := kept_all _ _
       obtain ⟨ps2, hps2⟩ : ∃ x, x = withoutG z.2 h0 := ⟨_, rfl⟩
       rw [eK, ← hps2]
       rw [← hps2] at hQ
       have hQ2 := hQ.delP v2 (by omega)
       have hrl := delG_len ps2.length z.1 ps2 []
       have hsg : skipG inn ps cum sk = delG ps2.length z.1 ps2 [] := by
        unfold skipG skipP
        rw [← hz, ← hh0, ← hps2]
       rw [hsg]
       have hdl := fun F L nx m mo ma ol al hm hmo hma hFm => refDeliver_ok (F := F) (L := L) (nx := nx) m mo ma ol al hm hmo hma num seen z.1 ps2 hQ2 hFm
       rw [v3] at hdl
       obtain ⟨r, hr⟩ : ∃ r, r = delG ps2.length z.1 ps2 [] := ⟨_, rfl⟩
       rw [← hr] at hrl hdl ⊢
       have hrl2 := hrl.trans v3
       simp only [f1, n0_q, Nat.add_assoc, List.length_map, go_sem]
       repeat refine sd2 ?_
       refine CallVC.gen (args2 := [.agg [.sl ⟨L + 1, 1000192⟩ 0 out.length, .sl ⟨L + 1, 1000193⟩ 0 inn.length, .fs 8 (ps2.map Dat.row), .int .i64 num, .int .i64 seen, .sl ⟨L + 1, 1000195⟩ 0 asked.length]]) (by simp [Wk, WkL, List.take_of_length_le, q_0, q_32, q_64, q_1000192, q_1000193, q_1000195]) (hdl _ _ _ ⟨L + 1, 1000193⟩ ⟨L + 1, 1000192⟩ ⟨L + 1, 1000195⟩ out.length asked.length (.inr ⟨rfl, by simp only []; omega⟩) (Nat.le_refl _) (Nat.le_refl _) (by simp [wkNL, wkN, unown, SF.upd, SF.set, q_0, q_32, q_64, q_1000192, q_1000193, n1000193_q, q_1000195])) ?_
       simp only [wkNL, wkN, unown, q_0, n0_q, q_32, q_64, n64_q, q_1000192, q_1000193, n1000193_q, q_1000195, Nat.add_assoc, go_sem]
       repeat refine sd2 ?_
       exact PostF.rs (v0 := .tup [.agg [.sl ⟨L + 1, 1000192⟩ 0 out.length, .sl ⟨L + 1, 1000193⟩ 0 inn.length, .fs 8 (r.2.1.map Dat.row), .int .i64 num, .int .i64 seen, .sl ⟨L + 1, 1000195⟩ 0 asked.length], .fs 4 (r.2.2.map Msg.row), .int .i64 0] ) (.inr rfl) (hw := by simp [Wk, WkL, Tx.look, List.take_of_length_le, hrl2])
theorem delG_msgs : ∀ (k : Nat) (inn : List Int) (ps : List Dat) (out : List Msg), (delG k inn ps out).2.2.length ≤ out.length + k
 | 0, _, _, out => by simp [delG]
 | k + 1, inn, ps, out => by
  rw [delG]
  split
  ·simp
  ·rename_i m ns _
   simp only
   split
   ·have := delG_msgs k inn (withoutG ps fun d => ns.contains d.tsn) (out ++ [m])
    simp at this ⊢; omega
   ·have := delG_msgs k (nextI inn m.st (inn.getD m.st.toNat 0)) (nextP inn (withoutG ps fun d => ns.contains d.tsn) m.st (inn.getD m.st.toNat 0)) (out ++ [m])
    simp at this ⊢; omega
theorem StX.z_le (k : Nat) : StX.z.Le k := ⟨Nat.zero_le _, Nat.zero_le _, Nat.zero_le _, Nat.zero_le _⟩
theorem StX.Le.mono {s : StX} {j k : Nat} (h : s.Le j) (hk : j ≤ k) : s.Le k := ⟨by have := h.o; omega, by have := h.i; omega, by have := h.p; omega, by have := h.a; omega⟩
theorem takeR_le {s : StX} {k : Nat} (h : s.Le k) (d : Dat) : (takeR s d).1.Le (k + 1) ∧ (takeR s d).2.1.length ≤ k + 1 := by
 obtain ⟨h1, h2, h3, h4⟩ := h
 unfold takeR
 split
 ·exact ⟨StX.z_le _, Nat.zero_le _⟩
 split
 ·exact ⟨StX.z_le _, Nat.zero_le _⟩
 split
 ·exact ⟨StX.z_le _, Nat.zero_le _⟩
 split
 ·exact ⟨⟨by simp only []; omega, by simp only []; omega, by simp only []; omega, by simp only []; omega⟩, Nat.zero_le _⟩
 split
 ·exact ⟨StX.z_le _, Nat.zero_le _⟩
 have a := takeG_len s.inn s.ps d
 have b := takeG_le s.inn s.ps d
 refine ⟨⟨by simp only []; omega, by simp only []; omega, by simp only []; omega, by simp only []; omega⟩, ?_⟩
 simp only []
 unfold takeG
 split
 ·exact Nat.zero_le _
 ·have := delG_msgs (s.ps ++ [d]).length s.inn (s.ps ++ [d]) []
  simp at this ⊢; omega
theorem skipG_len (inn : List Int) (ps : List Dat) (cum : Int) (sk : List (Int × Int)) : (skipG inn ps cum sk).1.length = inn.length ∧ (skipG inn ps cum sk).2.1.length ≤ ps.length ∧ (skipG inn ps cum sk).2.2.length ≤ ps.length := by
 have h1 : ∀ (sk : List (Int × Int)) (z : List Int × List Dat), (sk.foldl skipStep z).1.length = z.1.length ∧ (sk.foldl skipStep z).2.length ≤ z.2.length := by
  intro sk
  induction sk with
  | nil => intro z; exact ⟨rfl, Nat.le_refl _⟩
  | cons k sk ih =>
   intro z
   have h : (skipStep z k).1.length = z.1.length ∧ (skipStep z k).2.length ≤ z.2.length := by
    unfold skipStep
    split
    ·exact ⟨nextI_len _ _ _, List.length_filter_le _ _⟩
    ·exact ⟨rfl, Nat.le_refl _⟩
   obtain ⟨a, b⟩ := ih (skipStep z k)
   exact ⟨a.trans h.1, Nat.le_trans b h.2⟩
 obtain ⟨a, b⟩ := h1 sk (inn, ps)
 have c : (skipP inn ps cum sk).length ≤ ps.length := by
  unfold skipP
  exact Nat.le_trans (List.length_filter_le _ _) b
 unfold skipG
 refine ⟨(delG_len _ _ _ _).trans a, Nat.le_trans (delG_le _ _ _ _) c, ?_⟩
 have := delG_msgs (skipP inn ps cum sk).length (skipL inn ps sk).1 (skipP inn ps cum sk) []
 simp at this; omega
theorem skipR_le {s : StX} {k : Nat} (h : s.Le k) (cum : Int) (sk : List (Int × Int)) : (skipR s cum sk).1.Le k ∧ (skipR s cum sk).2.1.length ≤ k := by
 obtain ⟨h1, h2, h3, h4⟩ := h
 obtain ⟨a, b, c⟩ := skipG_len s.inn s.ps cum sk
 unfold skipR
 split
 ·exact ⟨StX.z_le _, Nat.zero_le _⟩
 split
 ·exact ⟨StX.z_le _, Nat.zero_le _⟩
 split
 ·exact ⟨StX.z_le _, Nat.zero_le _⟩
 exact ⟨⟨by simp only []; omega, by simp only []; omega, by simp only []; omega, by simp only []; omega⟩, by simp only []; omega⟩
theorem takes_ok {F : SF} {L nx : Nat} (s : StX) (hs : s.Le 1000) (d : Dat) : Con Tryz.prog 22 [s.v, .agg d.row] F L nx nx (.bool true) [] [] := by
 have h1 := fun F L nx => takeAll_ok (F := F) (L := L) (nx := nx) s hs d
 have h2 := fun F L nx => refTakeAll_ok (F := F) (L := L) (nx := nx) s hs d
 obtain ⟨hl, hm⟩ := takeR_le hs d
 obtain ⟨r, hr⟩ : ∃ r, r = takeR s d := ⟨_, rfl⟩
 rw [← hr] at h1 h2 hl hm
 obtain ⟨⟨out, inn, ps, num, seen, asked⟩, ms, e⟩ := r
 obtain ⟨l1, l2, l3, l4⟩ := hl
 simp only at l1 l2 l3 l4 hm
 have h3 := fun F L nx => sameS_ok (F := F) (L := L) (nx := nx) out inn asked num seen ps (by omega) (by omega) (by omega) (by omega)
 have h4 := fun F L nx => same_ok (F := F) (L := L) (nx := nx) ms ms (by omega) (by omega)
 simp only [ansV, StX.v, strV, Dat.row, decide_true] at h1 h2 h3 h4
 have e0 : (e == e) = true := by simp
 refine bdy Tryz.f22 ?_
 intro F3 hF1 hF2
 simp only [Tryz.f22, cx, StX.v, strV, Dat.row, go_sem, meths]
 refine CallVC.same (h1 _ _ _) ?_
 simp only [go_sem]
 refine CallVC.same (h2 _ _ _) ?_
 simp only [e0, go_sem]
 refine CallVC.same (h3 _ _ _) ?_
 simp only [go_sem]
 refine CallVC.same (h4 _ _ _) ?_
 simp only [go_sem]
 exact .bool (.inr rfl) rfl rfl (by simp [UpdAll])
theorem skips_ok {F : SF} {L nx : Nat} (s : StX) (hs : s.Le 1000) (cum : Int) (sk : List (Int × Int)) (hsk : sk.length ≤ 1000) : Con Tryz.prog 25 [s.v, fwdP cum sk] F L nx nx (.bool true) [] [] := by
 have h1 := fun F L nx => skipAll_ok (F := F) (L := L) (nx := nx) s hs cum sk hsk
 have h2 := fun F L nx => refSkipAll_ok (F := F) (L := L) (nx := nx) s hs cum sk hsk
 obtain ⟨hl, hm⟩ := skipR_le hs cum sk
 obtain ⟨r, hr⟩ : ∃ r, r = skipR s cum sk := ⟨_, rfl⟩
 rw [← hr] at h1 h2 hl hm
 obtain ⟨⟨out, inn, ps, num, seen, asked⟩, ms, e⟩ := r
 obtain ⟨l1, l2, l3, l4⟩ := hl
 simp only at l1 l2 l3 l4 hm
 have h3 := fun F L nx => sameS_ok (F := F) (L := L) (nx := nx) out inn asked num seen ps (by omega) (by omega) (by omega) (by omega)
 have h4 := fun F L nx => same_ok (F := F) (L := L) (nx := nx) ms ms (by omega) (by omega)
 simp only [ansV, StX.v, strV, fwdP, decide_true] at h1 h2 h3 h4
 have e0 : (e == e) = true := by simp
 refine bdy Tryz.f25 ?_
 intro F3 hF1 hF2
 simp only [Tryz.f25, cx, StX.v, strV, fwdP, go_sem, meths]
 refine CallVC.same (h1 _ _ _) ?_
 simp only [go_sem]
 refine CallVC.same (h2 _ _ _) ?_
 simp only [e0, go_sem]
 refine CallVC.same (h3 _ _ _) ?_
 simp only [go_sem]
 refine CallVC.same (h4 _ _ _) ?_
 simp only [go_sem]
 exact .bool (.inr rfl) rfl rfl (by simp [UpdAll])
theorem lawCut_ok {F : SF} {L nx : Nat} (d : Dat) : Con Tryz.prog 19 [.agg d.row] F L nx nx (.agg { d with pl := d.pl.take 1200 }.row) [] [] := by
 have t3 : (min (d.pl.length : Int) 1200).toNat = min d.pl.length 1200 := by omega
 have t4 : d.pl.take (min d.pl.length 1200) = d.pl.take 1200 := by rw [List.take_eq_take_iff]; omega
 have t5 : d.pl.take (min 1200 d.pl.length) = d.pl.take 1200 := by rw [List.take_eq_take_iff]; omega
 have t6 : d.pl.take (min d.pl.length 1200 - 0) = d.pl.take 1200 := by rw [Nat.sub_zero]; exact t4
 refine bdy Tryz.f19 ?_
 intro F3 hF1 hF2
 simp only [Tryz.f19, cx, Dat.row, t3, t6, go_sem, meths]
 repeat refine sd2 ?_
 exact PostF.rs (v0 := .agg [.int .i64 d.tsn, .int .i64 d.st, .int .i64 d.sq, .int .i64 d.pr, .bool d.fi, .bool d.la, .bool d.lo, .str (d.pl.take 1200)] ) (.inr rfl)
end Go.Proofs.YtfhhbkehlfipgaaGreat
end
