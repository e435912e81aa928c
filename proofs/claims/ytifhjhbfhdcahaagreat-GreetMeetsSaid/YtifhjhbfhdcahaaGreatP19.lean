/- Lemmas for the walk: GK100, GD41. -/
import Derived.Test.YtifhjhbfhdcahaaGreatP18
set_option linter.all false
section
namespace Go.Proofs.YtifhjhbfhdcahaaGreat
open Go.Tx
set_option maxRecDepth 100000
set_option maxHeartbeats 16000000
theorem outP_nf : ∀ l : List Pkx, nf (outP l) = true
 | [] => rfl
 | _ :: _ => by simp [outP, Tx.nf]
theorem gStep_ok {F : SF} {L nx : Nat} (g : Gx) (now kind : Int) (p : Pkx) (hlen : p.cs.length ≤ 1000000) (hb : ∀ c ∈ p.cs, c.bd.length ≤ 1000000) :
  Con Tryz.prog 24 [.agg g.row, .int .i64 now, .agg (.int .i64 kind :: p.row)] F L nx nx (stepV (gStep g now kind p)) [] [] := by
 have hC := fun F L nx => gCheck_ok (F := F) (L := L) (nx := nx) g
 have hT := fun F L nx => gTime_ok (F := F) (L := L) (nx := nx) now
 have hP := fun F L nx => pkCheck_ok (F := F) (L := L) (nx := nx) p hlen hb
 have e330 : ((330 : Int) != 0) = true := rfl
 have e320 : ((320 : Int) != 0) = true := rfl
 have e0 : ((0 : Int) != 0) = false := rfl
 have kz : outP [] = .nilS := rfl
 obtain ⟨q, hq⟩ : ∃ q, q = gStep g now kind p := ⟨_, rfl⟩
 rw [← hq]
 have hrow : g.row = _ := rfl
 simp only [Gx.row, Pkx.row] at hC hP ⊢
 refine Con.bodyT (cxOk (L + 1)) rfl rfl (fn := Tryz.f24) (c := Tryz.f24.body.getD .skip) (by kernel_rfl) (by rfl) (by kernel_rfl) rfl (by simp) ?_
 intro F3 hF1 hF2
 refine vcu ⟨[none, some (.int .i64 now), none, some (.ptr ⟨L + 1, 0⟩ 0 0), none, some (.ptr ⟨L + 1, 32⟩ 0 0), some (.ptr ⟨L + 1, 64⟩ 0 0), some (.nilS), some (.int .i64 0)] ++ oz 68, [(⟨L + 1, 0⟩, .rows 28 20 true true [(gR g [])]), (⟨L + 1, 32⟩, .rows 40 5 true true [[.int .i64 kind, .int .i64 p.fr, .int .i64 p.tt, .int .i64 p.tg, .fs 3 (p.cs.map Ckx.row)]]), (⟨L + 1, 64⟩, .rows 28 20 true true [[.int .i64 0, .int .i64 0, .int .i64 0, .str [], .int .i64 0, .int .i64 0, .int .i64 0, .int .i64 0, .int .i64 0, .str [], .int .i64 0, .int .i64 0, .int .i64 0, .int .i64 0, .int .i64 0, .str [], .str [], .int .i64 0, .int .i64 0, .int .i64 0]])], 10000⟩ ?_ ?_
 ·simp only [Tryz.f24, hdC, Option.getD_some, cx, if_false, Bool.false_eq_true, go_sem, meths]
  repeat refine sd2 ?_
  refine ⟨(), (so0 hF2)⟩
 refine vcu ⟨[none, some (.int .i64 now), none, some (.ptr ⟨L + 1, 0⟩ 0 0), none, some (.ptr ⟨L + 1, 32⟩ 0 0), some (.ptr ⟨L + 1, 64⟩ 0 0), some (.nilS), some (.int .i64 0), some (.mp ⟨L + 1, 10000⟩)] ++ oz 67, [(⟨L + 1, 0⟩, .rows 28 20 true true [(gR g [])]), (⟨L + 1, 32⟩, .rows 40 5 true true [[.int .i64 kind, .int .i64 p.fr, .int .i64 p.tt, .int .i64 p.tg, .fs 3 (p.cs.map Ckx.row)]]), (⟨L + 1, 64⟩, .rows 28 20 true true [[.int .i64 0, .int .i64 0, .int .i64 0, .str [], .int .i64 0, .int .i64 0, .int .i64 0, .int .i64 0, .int .i64 0, .str [], .int .i64 0, .int .i64 0, .int .i64 0, .int .i64 0, .int .i64 0, .str [], .str [], .int .i64 0, .int .i64 0, .int .i64 0]]), (⟨L + 1, 10000⟩, .map true true [.int .i64 1, .int .i64 2, .int .i64 3, .int .i64 4, .int .i64 5] [.fn (.func 53) [] [], .fn (.func 54) [] [], .fn (.func 55) [] [], .fn (.func 56) [] [], .fn (.func 57) [] []])], 20000⟩ ?_ ?_
 ·simp only [Tryz.f24, hdC, tlC, Option.getD_some, cx, mPutK, mPutV, mGet, Int.reduceEq, if_true, if_false, Option.isSome_none, intK_nil, intK_cons, Bool.false_eq_true, go_sem, meths]
  repeat refine sd2 ?_
  refine ⟨(), (so0 hF2)⟩
 cases hok : g.ok
 ·have hq2 : q = (zGx, [], 330) := by rw [hq]; unfold gStep; rw [if_pos hok]
  subst hq2
  rw [hok, if_neg (by simp)] at hC
  refine VT.of (cxOk (L + 1)) ?_
  simp only [Tryz.f24, tlC, Option.getD_some, cx, mGet, if_true, if_false, intK_nil, intK_cons, Bool.false_eq_true, Nat.add_zero, go_sem, meths]
  repeat refine sd2 ?_
  refine CallVC.same (hC _ _ _) ?_
  simp only [e330, if_true, if_false, go_sem]
  repeat refine sd2 ?_
  exact PostF.same (p := True) (.inr rfl) (by simp only [stepV, kz, Gx.row, zGx, zIni, resVal, resVals, resVal1, one, go_sem]) trivial (by simp [stepV, outP, Gx.row, zGx, zIni, Tx.nf, nfl]) (by simp [UpdAll])
 rw [hok, if_pos rfl] at hC
 cases htm : timB now
 ·have hq2 : q = (zGx, [], 2) := by rw [hq]; unfold gStep; rw [if_neg (by simp [hok]), if_pos (.inl htm)]
  subst hq2
  rw [htm] at hT
  refine VT.of (cxOk (L + 1)) ?_
  simp only [Tryz.f24, tlC, Option.getD_some, cx, mGet, if_true, if_false, intK_nil, intK_cons, Bool.false_eq_true, Nat.add_zero, go_sem, meths]
  repeat refine sd2 ?_
  refine CallVC.same (hC _ _ _) ?_
  simp only [e0, if_true, go_sem]
  repeat refine sd2 ?_
  refine CallVC.same (hT _ _ _) ?_
  simp only [if_true, if_false, Bool.false_eq_true, go_sem]
  repeat refine sd2 ?_
  exact PostF.same (p := True) (.inr rfl) (by simp only [stepV, kz, Gx.row, zGx, zIni, resVal, resVals, resVal1, one, go_sem]) trivial (by simp [stepV, outP, Gx.row, zGx, zIni, Tx.nf, nfl]) (by simp [UpdAll])
 rw [htm] at hT
 by_cases hta : now < g.ta
 ·have hq2 : q = (zGx, [], 2) := by rw [hq]; unfold gStep; rw [if_neg (by simp [hok]), if_pos (.inr (.inl hta))]
  subst hq2
  have d1 : decide (now < g.ta) = true := dT hta
  refine VT.of (cxOk (L + 1)) ?_
  simp only [Tryz.f24, tlC, Option.getD_some, cx, mGet, if_true, if_false, intK_nil, intK_cons, Bool.false_eq_true, Nat.add_zero, go_sem, meths]
  repeat refine sd2 ?_
  refine CallVC.same (hC _ _ _) ?_
  simp only [e0, if_true, go_sem]
  repeat refine sd2 ?_
  refine CallVC.same (hT _ _ _) ?_
  simp only [d1, if_true, if_false, Bool.false_eq_true, go_sem]
  repeat refine sd2 ?_
  exact PostF.same (p := True) (.inr rfl) (by simp only [stepV, kz, Gx.row, zGx, zIni, resVal, resVals, resVal1, one, go_sem]) trivial (by simp [stepV, outP, Gx.row, zGx, zIni, Tx.nf, nfl]) (by simp [UpdAll])
 have d1 : decide (now < g.ta) = false := dF hta
 by_cases hk : 1 ≤ kind ∧ kind ≤ 5
 rotate_left
 ·have hq2 : q = (zGx, [], 2) := by rw [hq]; unfold gStep; rw [if_neg (by simp [hok]), if_pos (by omega)]
  subst hq2
  have n1 : (1 = kind) = False := by apply eq_false; omega
  have n2 : (2 = kind) = False := by apply eq_false; omega
  have n3 : (3 = kind) = False := by apply eq_false; omega
  have n4 : (4 = kind) = False := by apply eq_false; omega
  have n5 : (5 = kind) = False := by apply eq_false; omega
  refine VT.of (cxOk (L + 1)) ?_
  simp only [Tryz.f24, tlC, Option.getD_some, cx, n1, n2, n3, n4, n5, mGet, if_true, if_false, Option.isSome_none, intK_nil, intK_cons, Bool.false_eq_true, Nat.add_zero, go_sem, meths]
  repeat refine sd2 ?_
  refine CallVC.same (hC _ _ _) ?_
  simp only [e0, if_true, go_sem]
  repeat refine sd2 ?_
  refine CallVC.same (hT _ _ _) ?_
  simp only [d1, if_true, if_false, Bool.false_eq_true, go_sem]
  repeat refine sd2 ?_
  exact PostF.same (p := True) (.inr rfl) (by simp only [stepV, kz, Gx.row, zGx, zIni, resVal, resVals, resVal1, one, go_sem]) trivial (by simp [stepV, outP, Gx.row, zGx, zIni, Tx.nf, nfl]) (by simp [UpdAll])
 refine vcu ⟨[none, some (.int .i64 now), none, some (.ptr ⟨L + 1, 0⟩ 0 0), none, some (.ptr ⟨L + 1, 32⟩ 0 0), some (.ptr ⟨L + 1, 64⟩ 0 0), some (.nilS), some (.int .i64 0), none, some (.fn (.func (evF kind)) [] []), some (.bool true)] ++ oz 65, [(⟨L + 1, 0⟩, .rows 28 20 true true [(gR g [])]), (⟨L + 1, 32⟩, .rows 40 5 true true [[.int .i64 kind, .int .i64 p.fr, .int .i64 p.tt, .int .i64 p.tg, .fs 3 (p.cs.map Ckx.row)]]), (⟨L + 1, 64⟩, .rows 28 20 true true [[.int .i64 0, .int .i64 0, .int .i64 0, .str [], .int .i64 0, .int .i64 0, .int .i64 0, .int .i64 0, .int .i64 0, .str [], .int .i64 0, .int .i64 0, .int .i64 0, .int .i64 0, .int .i64 0, .str [], .str [], .int .i64 0, .int .i64 0, .int .i64 0]]), (⟨L + 1, 10000⟩, .map true true [.int .i64 1, .int .i64 2, .int .i64 3, .int .i64 4, .int .i64 5] [.fn (.func 53) [] [], .fn (.func 54) [] [], .fn (.func 55) [] [], .fn (.func 56) [] [], .fn (.func 57) [] []])], 30000⟩ ?_ ?_
 ·rcases (show kind = 1 ∨ kind = 2 ∨ kind = 3 ∨ kind = 4 ∨ kind = 5 by omega) with hk9 | hk9 | hk9 | hk9 | hk9
  ·have he : evF kind = 53 := by rw [hk9]; rfl
   rw [he]
   simp only [Tryz.f24, hdC, tlC, Option.getD_some, cx, hk9, mGet, Int.reduceEq, if_true, if_false, Option.isSome_some, intK_nil, intK_cons, Bool.false_eq_true, Nat.add_zero, go_sem, meths]
   repeat refine sd2 ?_
   refine ⟨(), (so0 hF2)⟩
  ·have he : evF kind = 54 := by rw [hk9]; rfl
   rw [he]
   simp only [Tryz.f24, hdC, tlC, Option.getD_some, cx, hk9, mGet, Int.reduceEq, if_true, if_false, Option.isSome_some, intK_nil, intK_cons, Bool.false_eq_true, Nat.add_zero, go_sem, meths]
   repeat refine sd2 ?_
   refine ⟨(), (so0 hF2)⟩
  ·have he : evF kind = 55 := by rw [hk9]; rfl
   rw [he]
   simp only [Tryz.f24, hdC, tlC, Option.getD_some, cx, hk9, mGet, Int.reduceEq, if_true, if_false, Option.isSome_some, intK_nil, intK_cons, Bool.false_eq_true, Nat.add_zero, go_sem, meths]
   repeat refine sd2 ?_
   refine ⟨(), (so0 hF2)⟩
  ·have he : evF kind = 56 := by rw [hk9]; rfl
   rw [he]
   simp only [Tryz.f24, hdC, tlC, Option.getD_some, cx, hk9, mGet, Int.reduceEq, if_true, if_false, Option.isSome_some, intK_nil, intK_cons, Bool.false_eq_true, Nat.add_zero, go_sem, meths]
   repeat refine sd2 ?_
   refine ⟨(), (so0 hF2)⟩
  ·have he : evF kind = 57 := by rw [hk9]; rfl
   rw [he]
   simp only [Tryz.f24, hdC, tlC, Option.getD_some, cx, hk9, mGet, Int.reduceEq, if_true, if_false, Option.isSome_some, intK_nil, intK_cons, Bool.false_eq_true, Nat.add_zero, go_sem, meths]
   repeat refine sd2 ?_
   refine ⟨(), (so0 hF2)⟩
 have hok' : kind = 5 ∧ p.ok = false → q = (zGx, [], 320) := fun h => by rw [hq]; unfold gStep; rw [if_neg (by simp [hok]), if_neg (by simp [htm]; omega), if_pos h]
 refine VT.cut (cxOk (L + 1)) (by kernel_rfl) (fun _ : Unit => ⟨[none, some (.int .i64 now), none, some (.ptr ⟨L + 1, 0⟩ 0 0), none, some (.ptr ⟨L + 1, 32⟩ 0 0), some (.ptr ⟨L + 1, 64⟩ 0 0), none, none, none, some (.fn (.func (evF kind)) [] [])] ++ oz 66, [(⟨L + 1, 0⟩, .rows 28 20 true true [(gR g [])]), (⟨L + 1, 32⟩, .rows 40 5 true true [[.int .i64 kind, .int .i64 p.fr, .int .i64 p.tt, .int .i64 p.tg, .fs 3 (p.cs.map Ckx.row)]]), (⟨L + 1, 64⟩, .rows 28 20 true true [[.int .i64 0, .int .i64 0, .int .i64 0, .str [], .int .i64 0, .int .i64 0, .int .i64 0, .int .i64 0, .int .i64 0, .str [], .int .i64 0, .int .i64 0, .int .i64 0, .int .i64 0, .int .i64 0, .str [], .str [], .int .i64 0, .int .i64 0, .int .i64 0]])], 40000⟩) (fun _ => kind = 5 → p.ok = true) ?_ ?_
 ·by_cases h5 : kind = 5
  ·have b5 : (kind == 5) = true := by simp; omega
   cases hpo : p.ok
   ·rw [hpo, if_neg (by simp)] at hP
    have hq2 := hok' ⟨h5, hpo⟩
    subst hq2
    simp only [Tryz.f24, hdC, tlC, Option.getD_some, cx, if_true, if_false, Bool.false_eq_true, go_sem, meths]
    repeat refine sd2 ?_
    refine CallVC.same (hC _ _ _) ?_
    simp only [e0, if_true, go_sem]
    repeat refine sd2 ?_
    refine CallVC.same (hT _ _ _) ?_
    simp only [d1, b5, if_true, if_false, Bool.false_eq_true, Nat.add_zero, go_sem]
    repeat refine sd2 ?_
    refine CallVC.same (hP _ _ _) ?_
    simp only [e320, if_true, if_false, Bool.false_eq_true, go_sem]
    repeat refine sd2 ?_
    exact PostF.same (p := True) (.inr rfl) (by simp only [stepV, kz, Gx.row, zGx, zIni, resVal, resVals, resVal1, one, go_sem]) trivial (by simp [stepV, outP, Gx.row, zGx, zIni, Tx.nf, nfl]) (by simp [UpdAll])
   ·rw [hpo, if_pos rfl] at hP
    simp only [Tryz.f24, hdC, tlC, Option.getD_some, cx, if_true, if_false, go_sem, meths]
    repeat refine sd2 ?_
    refine CallVC.same (hC _ _ _) ?_
    simp only [e0, if_true, go_sem]
    repeat refine sd2 ?_
    refine CallVC.same (hT _ _ _) ?_
    simp only [d1, b5, if_true, if_false, Bool.false_eq_true, Nat.add_zero, go_sem]
    repeat refine sd2 ?_
    refine CallVC.same (hP _ _ _) ?_
    simp only [e0, if_true, if_false, Bool.false_eq_true, go_sem]
    repeat refine sd2 ?_
    refine ⟨(), fun _ => trivial, (so0 hF2)⟩
  ·have b5 : (kind == 5) = false := by simp; omega
   simp only [Tryz.f24, hdC, tlC, Option.getD_some, cx, if_true, if_false, go_sem, meths]
   repeat refine sd2 ?_
   refine CallVC.same (hC _ _ _) ?_
   simp only [e0, if_true, go_sem]
   repeat refine sd2 ?_
   refine CallVC.same (hT _ _ _) ?_
   simp only [d1, b5, if_true, if_false, Bool.false_eq_true, Nat.add_zero, go_sem]
   repeat refine sd2 ?_
   refine ⟨(), fun h => absurd h h5, (so0 hF2)⟩
 intro _ hpok
 clear hC hT hP
 rw [timB_iff] at htm
 refine vcu ⟨[none, some (.int .i64 now), none, some (.ptr ⟨L + 1, 0⟩ 0 0), none, some (.ptr ⟨L + 1, 32⟩ 0 0), some (.ptr ⟨L + 1, 64⟩ 0 0), none, none, none, some (.fn (.func (evF kind)) [] []), none, some (.ptr ⟨L + 1, 40096⟩ 0 0)] ++ oz 64, [(⟨L + 1, 32⟩, .rows 40 5 true true [[.int .i64 kind, .int .i64 p.fr, .int .i64 p.tt, .int .i64 p.tg, .fs 3 (p.cs.map Ckx.row)]]), (⟨L + 1, 64⟩, .rows 28 20 true true [[.int .i64 0, .int .i64 0, .int .i64 0, .str [], .int .i64 0, .int .i64 0, .int .i64 0, .int .i64 0, .int .i64 0, .str [], .int .i64 0, .int .i64 0, .int .i64 0, .int .i64 0, .int .i64 0, .str [], .str [], .int .i64 0, .int .i64 0, .int .i64 0]]), (⟨L + 1, 40096⟩, .rows 123 22 true true [(gR g [.int .i64 now, .nilS])])], 50000⟩ ?_ ?_
 ·simp only [Tryz.f24, hdC, tlC, Option.getD_some, cx, if_true, if_false, Bool.false_eq_true, go_sem, meths]
  repeat refine sd2 ?_
  refine ⟨(), (so0 hF2)⟩
 refine vcu ⟨[none, some (.int .i64 now), none, none, none, some (.ptr ⟨L + 1, 32⟩ 0 0), some (.ptr ⟨L + 1, 64⟩ 0 0), none, none, none, some (.fn (.func (evF kind)) [] []), none, some (.ptr ⟨L + 1, 40096⟩ 0 0)] ++ oz 64, [(⟨L + 1, 32⟩, .rows 40 5 true true [[.int .i64 kind, .int .i64 p.fr, .int .i64 p.tt, .int .i64 p.tg, .fs 3 (p.cs.map Ckx.row)]]), (⟨L + 1, 64⟩, .rows 28 20 true true [[.int .i64 0, .int .i64 0, .int .i64 0, .str [], .int .i64 0, .int .i64 0, .int .i64 0, .int .i64 0, .int .i64 0, .str [], .int .i64 0, .int .i64 0, .int .i64 0, .int .i64 0, .int .i64 0, .str [], .str [], .int .i64 0, .int .i64 0, .int .i64 0]]), (⟨L + 1, 40096⟩, .rows 123 22 true true [[.int .i64 g.st, .int .i64 g.fr, .int .i64 g.tt, .str g.sec, .int .i64 g.own.tag, .int .i64 g.own.win, .int .i64 g.own.out, .int .i64 g.own.inn, .int .i64 g.own.tsn, .str g.own.ck, .int .i64 g.peer.tag, .int .i64 g.peer.win, .int .i64 g.peer.out, .int .i64 g.peer.inn, .int .i64 g.peer.tsn, .str g.peer.ck, .str g.ck, .int .i64 now, .int .i64 g.due, .int .i64 g.tr, .int .i64 now, .nilS]])], 60000⟩ ?_ ?_
 ·simp only [Tryz.f24, hdC, tlC, Option.getD_some, cx, if_true, if_false, Bool.false_eq_true, Nat.add_zero, go_sem, meths]
  repeat refine sd2 ?_
  refine ⟨(), (so0 hF2)⟩
 obtain ⟨g9, hg9⟩ : ∃ g9 : Gx, g9 = { g with ta := now } := ⟨_, rfl⟩
 have hhd : g9.hd = true := by
  have := Gx.ok_hd hok
  rw [Gx.hd_iff] at this
  rw [hg9, Gx.hd_iff]
  exact ⟨this.1, this.2.1, this.2.2.1, this.2.2.2.1, this.2.2.2.2.1, this.2.2.2.2.2.1, (timB_iff _).2 htm⟩
 have hdt : g9.due < 0 ∨ (0 ≤ g9.due ∧ g9.due ≤ 1099511634176 ∧ 1 ≤ g9.tr ∧ g9.tr ≤ 8) := by rw [hg9]; exact Gx.due_tries (g := g) hok
 have hev := fun (F : SF) (nx : Nat) (hF : F ⟨L + 1, 40096⟩ = _) => gEv_ok (F := F) (L := L + 1) (nx := nx) ⟨L + 1, 40096⟩ (by simp) g9 now p kind hk hhd hdt htm (fun h => by
  have := hpok h
  unfold Pkx.ok Pkx.hd at this
  simp only [Bool.and_eq_true, decide_eq_true_eq] at this
  omega) hb hF
 have hqe : q = (match gEv g9 now kind p with | none => (zGx, [], 8) | some (h, o) => (h, o, 0)) := by
  rw [hq, hg9]; unfold gStep
  rw [if_neg (by simp [hok]), if_neg (by simp [timB_iff, htm]; omega), if_neg (by intro h; rw [hpok h.1] at h; simp at h)]
  generalize gEv _ now kind p = z
  cases z <;> rfl
 refine VT.of (cxOk (L + 1)) ?_
 cases hr : gEv g9 now kind p with
 | none =>
  rw [hr] at hqe hev
  simp only at hqe
  subst hqe
  simp only [EvRes, hg9, Gx.mrow, Gx.row, Pkx.row, List.cons_append, List.nil_append] at hev
  simp only [Tryz.f24, tlC, Option.getD_some, cx, if_true, if_false, Bool.false_eq_true, go_sem, meths]
  repeat refine sd2 ?_
  refine CallVC.same (hev _ _ (by simp [Tx.look])) ?_
  simp only [if_true, if_false, go_sem]
  repeat refine sd2 ?_
  exact PostF.same (p := True) (.inr rfl) (by simp only [stepV, kz, Gx.row, zGx, zIni, resVal, resVals, resVal1, one, go_sem]) trivial (by simp [stepV, outP, Gx.row, zGx, zIni, Tx.nf, nfl]) (by simp [UpdAll])
 | some r =>
  obtain ⟨h, o⟩ := r
  rw [hr] at hqe hev
  simp only at hqe
  subst hqe
  have hkz : nf (outP o) = true := outP_nf o
  obtain ⟨ov, hov⟩ : ∃ ov, ov = outP o := ⟨_, rfl⟩
  simp only [EvRes, ← hov, hg9, Gx.mrow, Gx.row, Pkx.row, List.cons_append, List.nil_append] at hev
  simp only [Tryz.f24, tlC, Option.getD_some, cx, if_true, if_false, Bool.false_eq_true, go_sem, meths]
  repeat refine sd2 ?_
  refine CallVC.same (hev _ _ (by simp [Tx.look])) ?_
  simp only [if_true, if_false, Bool.false_eq_true, Nat.add_zero, go_sem]
  repeat refine sd2 ?_
  refine ⟨okDyn_num (fun x => x.i) (by kernel_rfl), ?_⟩
  exact PostF.same (p := True) (.inr rfl) (by simp only [stepV, ← hov, Gx.row, resVal, resVals, resVal1, one, go_sem]) trivial (by simp [stepV, outP_nf, Gx.row, Tx.nf, nfl]) (by simp [UpdAll])
theorem gd_tim {t : Int} (h : timB t = true) : 0 ≤ t ∧ t ≤ 1099511627776 := by unfold timB at h; simpa using h
theorem gd_hd (g : Gx) : g.hd = true ↔ 0 ≤ g.fr ∧ g.fr ≤ 65535 ∧ 0 ≤ g.tt ∧ g.tt ≤ 65535 ∧ g.sec.length = 32 ∧ plainB g.own = true ∧ timB g.ta = true := by
 unfold Gx.hd
 simp only [Bool.and_eq_true, decide_eq_true_eq, and_assoc]
theorem gd_ok (g : Gx) : g.ok = true ↔ g.hd = true ∧ g.mid = true ∧ g.cko = true := by unfold Gx.ok; simp only [Bool.and_eq_true, and_assoc]
theorem gd_plain {d : Ini} (h : plainB d = true) : d.ok = true ∧ d.ck = [] := by unfold plainB at h; simpa using h
theorem gd_tag {d : Ini} (h : d.ok = true) : 0 < d.tag ∧ d.tag < 4294967296 ∧ d.ck.length ≤ 200 := by
 unfold Ini.ok serB at h
 simp at h
 omega
theorem gd_oct (d : Ini) : d.oct.length = 16 + d.ck.length := by
 unfold Ini.oct iniB
 simp only [List.length_append, putB_len]
theorem gd_peer {g : Gx} (h : g.mid = true) : g.peer = zIni ∨ plainB g.peer = true := by
 unfold Gx.mid at h
 split at h
 ·simp at h; exact .inl h.1
 split at h
 ·simp at h; exact .inl h.1
 split at h
 ·simp at h; exact .inr h.1
 split at h
 ·simp at h; exact .inr h.1
 split at h
 ·simp at h; exact h.1
 ·cases h
structure Good (h : Gx) (now : Int) (o : List Pkx) : Prop where
 ok : h.ok = true
 ta : h.ta = now
 len : o.length ≤ 1
 pk : ∀ x ∈ o, x.ok = true ∧ x.fr = h.fr ∧ x.tt = h.tt
theorem sendPk {g : Gx} (hg : g.hd = true) {tag : Int} (ht : 0 ≤ tag ∧ tag < 4294967296) {c : Ckx} (hc : 0 ≤ c.kd ∧ c.kd < 256) (hf : c.fl = 0) (hb : c.bd.length ≤ 300) : ∀ x ∈ gSend g tag c, x.ok = true ∧ x.fr = g.fr ∧ x.tt = g.tt := by
 intro x hx
 simp only [gSend, List.mem_cons, List.not_mem_nil, or_false] at hx
 subst hx
 rw [gd_hd] at hg
 refine ⟨?_, rfl, rfl⟩
 unfold Pkx.ok Pkx.hd szs Ckx.ok Ckx.sz serB
 simp [hf]
 omega
theorem peer_tag {g : Gx} (hm : g.mid = true) : 0 ≤ g.peer.tag ∧ g.peer.tag < 4294967296 := by
 rcases gd_peer hm with h | h
 ·rw [h]; exact ⟨by decide, by decide⟩
 ·have := gd_tag (gd_plain h).1; omega
theorem tellPk {g : Gx} (hg : g.hd = true) (ht : 0 ≤ g.peer.tag ∧ g.peer.tag < 4294967296) {k : Int} (hk : 0 ≤ k ∧ k < 256) : ∀ x ∈ gTell g k, x.ok = true ∧ x.fr = g.fr ∧ x.tt = g.tt :=
 sendPk hg ht hk rfl (by simp)
theorem againPk {g : Gx} (hg : g.hd = true) (ht : 0 ≤ g.peer.tag ∧ g.peer.tag < 4294967296) (hc : g.ck.length ≤ 200) : (gAgain g).length ≤ 1 ∧ ∀ x ∈ gAgain g, x.ok = true ∧ x.fr = g.fr ∧ x.tt = g.tt := by
 have ho := gd_plain ((gd_hd g).1 hg).2.2.2.2.2.1
 unfold gAgain
 split
 ·exact ⟨by simp [gSend], sendPk hg (by omega) (by simp) rfl (by simp [gd_oct, ho.2])⟩
 split
 ·exact ⟨by simp [gSend], sendPk hg ht (by simp) rfl (by simp; omega)⟩
 split
 ·exact ⟨by simp [gTell, gSend], tellPk hg ht (by simp)⟩
 split
 ·exact ⟨by simp [gTell, gSend], tellPk hg ht (by simp)⟩
 ·exact ⟨by simp, by simp⟩
theorem triesOk {g : Gx} (hg : g.hd = true) {s : Int} (hs : (s = 2 ∧ g.peer = zIni) ∨ ((s = 5 ∨ s = 6) ∧ plainB g.peer = true)) {now : Int} (hn : 0 ≤ now ∧ now ≤ 1099511627776) : (gBegin g s now).ok = true := by
 rw [gd_ok]
 refine ⟨hg, ?_, ?_⟩
 ·have ht : (gBegin g s now).tries = true := by unfold Gx.tries gBegin; simp; omega
  unfold Gx.mid
  rw [ht]
  rcases hs with ⟨rfl, hp⟩ | ⟨rfl | rfl, hp⟩ <;> simp [gBegin, hp]
 ·unfold Gx.cko gBegin
  rcases hs with ⟨rfl, _⟩ | ⟨rfl | rfl, _⟩ <;> simp
theorem restOk {g : Gx} (hg : g.hd = true) {s : Int} (hs : (s = 4 ∧ plainB g.peer = true) ∨ (s = 7 ∧ (g.peer = zIni ∨ plainB g.peer = true))) : (gRest g s).ok = true := by
 rw [gd_ok]
 refine ⟨hg, ?_, ?_⟩
 ·have ht : (gRest g s).rest = true := by unfold Gx.rest gRest; simp
  unfold Gx.mid
  rw [ht]
  rcases hs with ⟨rfl, hp⟩ | ⟨rfl, hp | hp⟩ <;> simp [gRest, hp]
 ·unfold Gx.cko gRest
  rcases hs with ⟨rfl, _⟩ | ⟨rfl, _⟩ <;> simp
theorem mid3 {g : Gx} (hm : g.mid = true) (h : g.st = 4 ∨ g.st = 5 ∨ g.st = 6 ∨ g.st = 3) : plainB g.peer = true := by
 unfold Gx.mid at hm
 rcases h with h | h | h | h <;> simp [h] at hm <;> exact hm.1
theorem same_good {g : Gx} (hg : g.ok = true) {now : Int} (ht : g.ta = now) {o : List Pkx} (h1 : o.length ≤ 1) (h2 : ∀ x ∈ o, x.ok = true ∧ x.fr = g.fr ∧ x.tt = g.tt) : Good g now o := ⟨hg, ht, h1, h2⟩
theorem cko_len {g : Gx} (h : g.cko = true) : g.ck.length ≤ 200 := by
 unfold Gx.cko at h
 split at h
 ·simp at h; exact h.2
 ·simp at h; rw [h]; simp
theorem tick_good {g : Gx} (hg : g.ok = true) {now : Int} (ht : g.ta = now) (hn : 0 ≤ now ∧ now ≤ 1099511627776) : Good (gTick g now).1 now (gTick g now).2 := by
 obtain ⟨hh, hm, hc⟩ := (gd_ok g).1 hg
 unfold gTick
 split
 ·exact same_good hg ht (by simp) (by simp)
 rename_i hdue
 split
 ·exact ⟨restOk hh (.inr ⟨rfl, gd_peer hm⟩), ht, by simp, by simp⟩
 rename_i htr
 have ha := againPk hh (peer_tag hm) (cko_len hc)
 refine ⟨?_, ht, ha.1, ha.2⟩
 have hw := wtS_le g.tr
 have hd := Gx.due_tries hg
 have htr' : ∀ h : Gx, h.due = now + wtS g.tr → h.tr = g.tr + 1 → h.tries = true := by
  intro h e1 e2
  unfold Gx.tries
  rw [e1, e2]
  simp; omega
 have hre : g.rest = false := by
  cases h : g.rest
  ·rfl
  ·unfold Gx.rest at h; simp at h; omega
 rw [gd_ok]
 refine ⟨hh, ?_, hc⟩
 unfold Gx.mid at hm ⊢
 rw [hre] at hm
 simp only [htr' { g with due := now + wtS g.tr, tr := g.tr + 1 } rfl rfl]
 simp only [Bool.and_false] at hm
 split at hm
 ·cases hm
 rename_i h1
 rw [if_neg h1]
 split at hm
 ·rename_i h2; rw [if_pos h2]; simp at hm ⊢; exact hm.1
 rename_i h2
 rw [if_neg h2]
 split at hm
 ·rename_i h3; rw [if_pos h3]; simp at hm ⊢; exact hm.1
 rename_i h3
 rw [if_neg h3]
 split at hm
 ·cases hm
 split at hm
 ·cases hm
 ·cases hm
theorem kind_good {g : Gx} (hg : g.ok = true) {now : Int} (ht : g.ta = now) (hn : 0 ≤ now ∧ now ≤ 1099511627776) (tag : Int) (c : Ckx) : Good (gKind g now tag c).1 now (gKind g now tag c).2 := by
 obtain ⟨hh, hm, hc⟩ := (gd_ok g).1 hg
 have hp := peer_tag hm
 have ha := againPk hh hp (cko_len hc)
 have hsame : Good g now [] := same_good hg ht (by simp) (by simp)
 have hown := gd_plain ((gd_hd g).1 hh).2.2.2.2.2.1
 have hrest : ∀ s, (s = 4 ∧ plainB g.peer = true) ∨ (s = 7 ∧ (g.peer = zIni ∨ plainB g.peer = true)) → ∀ o : List Pkx, o.length ≤ 1 → (∀ x ∈ o, x.ok = true ∧ x.fr = g.fr ∧ x.tt = g.tt) → Good (gRest g s) now o := fun s hs o h1 h2 => ⟨restOk hh hs, ht, h1, h2⟩
 unfold gKind
 split
 ·rename_i hk
  unfold gAsked
  split
  ·rename_i h
   obtain ⟨h1, h2, h3⟩ := h
   obtain ⟨i1, i2, i3, _⟩ := iniOk_one hk h1
   have := gd_tag i1
   refine same_good hg ht (by simp [gSend]) (sendPk hh (by omega) (by simp) rfl ?_)
   simp only [gd_oct, ckS_len]
   omega
  ·exact hsame
 split
 ·exact hsame
 split
 ·rename_i hk
  unfold gInitA
  split
  ·rename_i h
   obtain ⟨h1, h2⟩ := h
   unfold iniOk at h1
   simp only [Bool.and_eq_true, decide_eq_true_eq] at h1
   obtain ⟨_, i1, i2, _⟩ := h1
   have hne : (iniG c).ck ≠ [] := by
    intro h; unfold iniK at i2; rw [if_pos h, hk] at i2; cases i2
   have htg := gd_tag i1
   have hpl : plainB { iniG c with ck := [] } = true := by
    unfold plainB
    rw [ini_okB i1 (by simp)]; rfl
   have hok : Gx.ok { gBegin g 3 now with ck := (iniG c).ck, peer := { iniG c with ck := [] } } = true := by
    rw [gd_ok]
    refine ⟨hh, ?_, ?_⟩
    ·have ht : Gx.tries { gBegin g 3 now with ck := (iniG c).ck, peer := { iniG c with ck := [] } } = true := by unfold Gx.tries gBegin; simp; omega
     unfold Gx.mid
     rw [ht]
     simp [gBegin, hpl]
    ·unfold Gx.cko gBegin
     simp [hne]
     omega
   have ha2 := againPk (g := { gBegin g 3 now with ck := (iniG c).ck, peer := { iniG c with ck := [] } }) hh (by show 0 ≤ (iniG c).tag ∧ _; exact ⟨by omega, htg.2.1⟩) htg.2.2
   exact ⟨hok, ht, ha2.1, ha2.2⟩
  ·exact hsame
 split
 ·unfold gEcho
  simp only
  split
  ·rename_i h
   obtain ⟨_, h1, _, _⟩ := h
   obtain ⟨i1, i2, _, _⟩ := iniOk_one (c := ⟨1, 0, (c.bd.drop 6).take 16⟩) rfl h1
   have htg := gd_tag i1
   have hpl : plainB (iniG ⟨1, 0, (c.bd.drop 6).take 16⟩) = true := by unfold plainB; rw [i1, i2]; rfl
   split
   ·exact same_good hg ht (by simp [gSend]) (sendPk hh (by omega) (by simp) rfl (by simp))
   split
   ·refine ⟨restOk (g := { g with peer := iniG ⟨1, 0, (c.bd.drop 6).take 16⟩ }) hh (.inl ⟨rfl, hpl⟩), ht, by simp [gTell, gSend], tellPk (g := { gRest g 4 with peer := iniG ⟨1, 0, (c.bd.drop 6).take 16⟩ }) hh ?_ (by simp)⟩
    exact ⟨by show 0 ≤ (iniG _).tag; omega, htg.2.1⟩
   split
   ·exact same_good hg ht (by simp [gTell, gSend]) (tellPk hh hp (by simp))
   ·exact hsame
  ·exact hsame
 split
 ·split
  ·rename_i h; exact hrest 4 (.inl ⟨rfl, mid3 hm (.inr (.inr (.inr h)))⟩) [] (by simp) (by simp)
  ·exact hsame
 split
 ·unfold gShut
  split
  ·rename_i h
   have hpl := mid3 hm (by omega)
   have ha2 := againPk (g := gBegin g 6 now) hh hp (by simp [gBegin])
   exact ⟨triesOk hh (.inr ⟨.inr rfl, hpl⟩) hn, ht, ha2.1, ha2.2⟩
  split
  ·exact same_good hg ht ha.1 ha.2
  ·exact hsame
 split
 ·unfold gShutA
  split
  ·exact hrest 7 (.inr ⟨rfl, gd_peer hm⟩) _ (by simp [gTell, gSend]) (tellPk hh hp (by simp))
  ·exact hsame
 split
 ·split
  ·exact hrest 7 (.inr ⟨rfl, gd_peer hm⟩) [] (by simp) (by simp)
  ·exact hsame
 split
 ·split
  ·exact hsame
  ·exact hrest 7 (.inr ⟨rfl, gd_peer hm⟩) [] (by simp) (by simp)
 ·exact hsame
theorem ev_good {g : Gx} (hg : g.ok = true) {now : Int} (ht : g.ta = now) (hn : 0 ≤ now ∧ now ≤ 1099511627776) (kind : Int) (p : Pkx) {h : Gx} {o : List Pkx} (he : gEv g now kind p = some (h, o)) : Good h now o := by
 obtain ⟨hh, hm, hc⟩ := (gd_ok g).1 hg
 have hp := peer_tag hm
 unfold gEv at he
 split at he
 ·unfold gOpen at he
  split at he
  ·rename_i h1
   injection he with he; injection he with e1 e2; subst e1; subst e2
   have hz : g.peer = zIni := by unfold Gx.mid at hm; rw [if_pos h1] at hm; simp at hm; exact hm.1
   have ha := againPk (g := gBegin g 2 now) hh hp (by simp [gBegin])
   exact ⟨triesOk hh (.inl ⟨rfl, hz⟩) hn, ht, ha.1, ha.2⟩
  ·cases he
 split at he
 ·unfold gLeave at he
  split at he
  ·rename_i h1
   injection he with he; injection he with e1 e2; subst e1; subst e2
   have ha := againPk (g := gBegin g 5 now) hh hp (by simp [gBegin])
   exact ⟨triesOk hh (.inr ⟨.inl rfl, mid3 hm (.inl h1)⟩) hn, ht, ha.1, ha.2⟩
  ·cases he
 split at he
 ·unfold gAbort at he
  split at he
  ·cases he
  ·injection he with he; injection he with e1 e2; subst e1; subst e2
   refine ⟨restOk hh (.inr ⟨rfl, gd_peer hm⟩), ht, ?_, ?_⟩
   ·split <;> simp [gTell, gSend]
   ·split
    ·simp
    ·exact tellPk hh hp (by simp)
 split at he
 ·injection he with he
  have := tick_good hg ht hn
  rw [he] at this
  exact this
 ·injection he with he
  unfold gRecv at he
  split at he
  ·have := kind_good hg ht hn p.tg p.hdC
   rw [he] at this
   exact this
  ·injection he with e1 e2; subst e1; subst e2
   exact same_good hg ht (by simp) (by simp)
theorem step_good {g : Gx} {now kind : Int} {p : Pkx} {h : Gx} {o : List Pkx} (he : gStep g now kind p = (h, o, 0)) : Good h now o := by
 unfold gStep at he
 split at he
 ·simp at he
 rename_i hg
 split at he
 ·simp at he
 rename_i h2
 split at he
 ·simp at he
 split at he
 ·simp at he
 ·rename_i h' o' he'
  simp at he
  obtain ⟨e1, e2⟩ := he
  subst e1; subst e2
  have hok : g.ok = true := by simpa using hg
  have hn : timB now = true := by
   cases h : timB now
   ·exact absurd (.inl h) h2
   ·rfl
  obtain ⟨hh, hm, hc⟩ := (gd_ok g).1 hok
  refine ev_good (g := { g with ta := now }) ?_ rfl (gd_tim hn) kind p he'
  rw [gd_ok]
  refine ⟨?_, hm, hc⟩
  rw [gd_hd] at hh ⊢
  exact ⟨hh.1, hh.2.1, hh.2.2.1, hh.2.2.2.1, hh.2.2.2.2.1, hh.2.2.2.2.2.1, hn⟩
end Go.Proofs.YtifhjhbfhdcahaaGreat
end
