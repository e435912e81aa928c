/- Lemmas for the walk: C38. -/
import Derived.Test.YtfhhbkehlfipgaaCxM
import Derived.Test.YtfhhbkehlfipgaaCxK
section
set_option linter.unusedSimpArgs false
set_option linter.unusedVariables false
set_option linter.unnecessarySimpa false
set_option linter.unusedSectionVars false
namespace Go.Proofs.Ytfhhbkehlfipgaa
open Go.Tx
set_option maxRecDepth 100000
set_option maxHeartbeats 16000000
set_option linter.unusedSimpArgs false
set_option linter.unusedVariables false
/-! streams.Skip -/
theorem PsOk.delP {inn : List Int} {ps : List Dat} (h : PsOk inn ps) (hi : inn.all (serB 16) = true) (hi2 : inn.length ≤ 16) : DelP inn ps where
  len := h.len
  ok := fun d hd => (partOk_ok (h.all d hd)).1
  st := fun d hd => (partOk_ok (h.all d hd)).2.1
  nodup := h.nodup
  i3 := hi
  i2 := hi2
theorem okSk_bounds {sk : List (Int × Int)} {cum : Int} (h : fwdV cum sk = true) : (∀ k ∈ sk, 0 ≤ k.1 ∧ 0 ≤ k.2 ∧ k.2 < 65536) ∧ 0 ≤ cum ∧ cum < 4294967296 ∧ sk.length ≤ 30 := by
  obtain ⟨b1, b2, b3⟩ := fwdV_all h
  have h16 : (2 : Int) ^ (Int.toNat 16) = 65536 := rfl
  have h32 : (2 : Int) ^ (Int.toNat 32) = 4294967296 := rfl
  simp only [serB, Bool.and_eq_true, decide_eq_true_eq, h32] at b2
  refine ⟨fun k hk => ?_, b2.1, b2.2, b3⟩
  have := b1 k hk
  simp only [serB, Bool.and_eq_true, decide_eq_true_eq, h16] at this
  exact ⟨this.1.1, this.2.1, this.2.2⟩
theorem cutS_len (ps : List Dat) : ∀ (k : Nat) (t : Int) (b : Dat) (ns : List Int), (cutS ps k t b ns).length ≤ k + ns.length
  | 0, _, _, _ => by simp [cutS]
  | k + 1, t, b, ns => by
    rw [cutS]
    split
    · simp
    · split
      · simp
      · split
        · simp
        · split
          · simp; omega
          · exact Nat.le_trans (cutS_len ps k _ _ _) (by simp; omega)
theorem cutG_len (ps : List Dat) (cum : Int) : (cutG ps cum).length ≤ ps.length + 1 := Nat.le_trans (cutS_len ps (ps.length + 1) cum datZ []) (by simp)
theorem skip_ok {F : SF} {L nx : Nat} (out inn asked : List Int) (num seen : Int) (hS : Str0 out inn num seen asked) (ps : List Dat) (hP : PsOk inn ps) (hD : dueG inn ps = none) (cum : Int) (sk : List (Int × Int)) (hV : fwdV cum sk = true) (hst : sk.any (fun k => decide ((inn.length : Int) ≤ k.1)) = false) :
    Con Try.prog 30 [strV out inn num seen asked ps, fwdP cum sk] F L nx nx (.tup [strV out (skipG inn ps cum sk).1 num seen asked (skipG inn ps cum sk).2.1, .fs 4 ((skipG inn ps cum sk).2.2.map Msg.row), .int .i64 0]) [] [] := by
  have hp80 := hP.len
  have ho2 := hS.o2
  have hi2 := hS.i2
  have ha2 := hS.a2
  obtain ⟨hk1, hc0, hc1, hk3⟩ := okSk_bounds hV
  have hk2 : ∀ k ∈ sk, k.1 < inn.length := by
    intro k hk
    rw [List.any_eq_false] at hst
    have := hst k hk
    simp at this; omega
  have hbg : ∀ F L nx, Con Try.prog 41 [strV out inn num seen asked ps] F L nx (nx + 5) (.tup [.ptr ⟨L, nx⟩ 0 0, .int .i64 0]) (stU L nx out inn asked num seen ps) [] := fun F L nx => begin_ok out inn asked num seen hS ps hP hD
  have hpf := fun F L nx => putForward_ok (F := F) (L := L) (nx := nx) cum sk (by omega)
  simp only [hV, if_true, fwdP] at hpf
  simp only [strV, stU] at hbg
  have f0 : ((0 : Int) != 0) = false := rfl
  refine Con.body (cxOk (L + 1)) rfl rfl (fn := Try.f30) (c := Try.f30.body.getD .skip) (by kernel_rfl) (by rfl) (by kernel_rfl) rfl (by simp) ?_
  intro F3 hF1 hF2
  simp only [Try.f30, cx, strV, fwdP, Nat.add_zero, go_sem, Meths.get, meths, Nat.reduceSub, Nat.reduceAdd, Nat.reduceMul, Nat.reduceEqDiff, Nat.reduceLT, Nat.reduceLeDiff, Nat.reduceBEq, Nat.reduceBNe, reduceIte, reduceCtorEq, Int.reduceToNat, String.reduceEq]
  refine CallVC.same (hbg _ _ _) ?_
  simp only [f0, nm_beq, Nat.reduceBEq, nB, nB', nS2, nS2', Nat.add_assoc, Nat.reduceAdd, Nat.add_zero, go_sem, Meths.get, meths, Nat.reduceSub, Nat.reduceAdd, Nat.reduceMul, Nat.reduceEqDiff, Nat.reduceLT, Nat.reduceLeDiff, Nat.reduceBEq, Nat.reduceBNe, reduceIte, reduceCtorEq, Int.reduceToNat, String.reduceEq]
  refine CallVC.same (hpf _ _ _) ?_
  simp only [f0, nm_beq, Nat.reduceBEq, nB, nB', nS2, nS2', Nat.add_assoc, Nat.reduceAdd, List.length_map, Nat.add_zero, go_sem, Meths.get, meths, Nat.reduceSub, Nat.reduceAdd, Nat.reduceMul, Nat.reduceEqDiff, Nat.reduceLT, Nat.reduceLeDiff, Nat.reduceBEq, Nat.reduceBNe, reduceIte, reduceCtorEq, Int.reduceToNat, String.reduceEq]
  refine CallVC.same (containsFunc2_ok sk 57 [] [.ptr ⟨L + 1, 0⟩ 0 0] (fun k => decide ((inn.length : Int) ≤ k.1)) [⟨L + 1, 0⟩] (by simp) (by omega) (fun x hx L' nx' hL => skip1_ok x ⟨L + 1, 0⟩ hL 34 true true (.fs 1 (out.map eI)) (.fs 8 (ps.map Dat.row)) (.int .i64 num) (.int .i64 seen) (.fs 1 (asked.map eI)) inn (by simp))) ?_
  simp only [hst, f0, nm_beq, Nat.reduceBEq, nB, nB', nS2, nS2', Nat.add_assoc, Nat.reduceAdd, List.length_map, Nat.add_zero, go_sem, Meths.get, meths, Nat.reduceSub, Nat.reduceAdd, Nat.reduceMul, Nat.reduceEqDiff, Nat.reduceLT, Nat.reduceLeDiff, Nat.reduceBEq, Nat.reduceBNe, reduceIte, reduceCtorEq, Int.reduceToNat, String.reduceEq]
  refine loopK.intro _ _ (I := fun i : Nat => ⟨[none, none, none, some (.ptr ⟨L + 1, 32⟩ 0 0), some (.ptr ⟨L + 1, 64⟩ 0 0), none, none, some (.ptr ⟨L + 1, 192⟩ 0 0), none, none, none, none, none, none, none, none, none, none, none, none, none, none, none, none, none, none, none, none, none, none, none, none, none, none, none, none, none, none, none, some (.fs 2 (sk.map kE)), some (.int .i64 sk.length), some (.int .i64 i), none, none, none, none, none, none, none, none, none, none, none, none, none, none, none, none, none, none, none, none, none, none, none, none, none, none, none, none, none, none, none, none, none, none, none, none, none, none, none, none, none, none, none, none, none],
    [(⟨L + 1, 32⟩, .rows 75 2 true true [[.int .i64 cum, .fs 2 (sk.map kE)]]), (⟨L + 1, 64⟩, .rows 34 6 true true [[.nilS, .nilS, .nilS, .int .i64 0, .int .i64 0, .nilS]]),
     (⟨L + 1, 192⟩, .rows 106 6 true false [[.sl ⟨L + 1, 193⟩ 0 out.length, .sl ⟨L + 1, 194⟩ 0 inn.length, .fs 8 ((skipL inn ps (sk.take i)).2.map Dat.row), .int .i64 num, .int .i64 seen, .sl ⟨L + 1, 196⟩ 0 asked.length]]),
     (⟨L + 1, 193⟩, .rows 3 1 true true (out.map eI)), (⟨L + 1, 194⟩, .rows 3 1 true true ((skipL inn ps (sk.take i)).1.map eI)), (⟨L + 1, 196⟩, .rows 3 1 true true (asked.map eI))], if i = sk.length then 1000000 else 10000 * (i + 1)⟩) (pre := fun i => i ≤ sk.length) (μ := fun i => sk.length - i) 0 (by omega) ?_ ?_
  · refine Sub.trans (Sub.freeze (n := ⟨L + 1, 192⟩) (e := 106) (wd := 6) (o := true) (rs := [[.sl ⟨L + 1, 193⟩ 0 out.length, .sl ⟨L + 1, 194⟩ 0 inn.length, .sl ⟨L + 1, 195⟩ 0 ps.length, .int .i64 num, .int .i64 seen, .sl ⟨L + 1, 196⟩ 0 asked.length]]) [[.sl ⟨L + 1, 193⟩ 0 out.length, .sl ⟨L + 1, 194⟩ 0 inn.length, .fs 8 (ps.map Dat.row), .int .i64 num, .int .i64 seen, .sl ⟨L + 1, 196⟩ 0 asked.length]] (by simp [Tx.look]) (by simp [WkLL, WkL, Wk, Tx.look, List.take_of_length_le]) (by simp [wkNLL, wkNL, wkN])) ?_
    refine Sub.of (fun n hn => hF2 n (by have : n.l = L + 1 := hn; omega)) (by simp only [go_sem, resVal, resVals, resVal1, one, Wk, WkL, WkLL, wkN, wkNL, wkNLL, UpdIn, UpdAll, BW, plainP, plainPL, subT, subH, subK, and_self, true_or, or_true, List.not_mem_nil, List.mem_cons, forall_eq, imp_self, implies_true, Nat.reduceSub, Nat.reduceAdd, Nat.reduceMul, Nat.reduceEqDiff, Nat.reduceLT, Nat.reduceLeDiff, Nat.reduceBEq, Nat.reduceBNe, reduceIte, reduceCtorEq, Int.reduceToNat, String.reduceEq, Int.natCast_zero]) ?_ ?_ (by simp only []; split <;> omega)
    · simp [subH, Tx.look, updH, setH, skipL, unown, wkNLL, wkNL, wkN]
    · simp [subK, keys, updH, setH, unown, wkNLL, wkNL, wkN, Tx.look]
  · intro i hi
    obtain ⟨v1, v2, v3⟩ := skipL_ok (sk.take i) (inn, ps) hP hS.i3 (fun k hk => (hk1 k (List.mem_of_mem_take hk)).1)
    obtain ⟨z, hz⟩ : ∃ z, z = skipL inn ps (sk.take i) := ⟨_, rfl⟩
    rw [show (sk.take i).foldl skipStep (inn, ps) = z from hz.symm] at v1 v2 v3
    simp only at v3
    rw [← hz]
    by_cases hlt : i < sk.length
    · have hiN : (i = sk.length) = False := by apply eq_false; omega
      have f1 : decide ((i : Int) < (sk.length : Int)) = true := dT (by omega)
      have r0 := rowK hlt
      obtain ⟨k, hk⟩ : ∃ k, k = sk.getD i (0, 0) := ⟨_, rfl⟩
      have hkm : k ∈ sk := by rw [hk]; simp [List.getD_eq_getElem?_getD, hlt]
      rw [← hk] at r0
      obtain ⟨a1, a2, a3⟩ := hk1 k hkm
      have a4 := hk2 k hkm
      have r1 := getD_eI z.1 (i := k.1.toNat) (by omega)
      obtain ⟨b1, b2⟩ := serB16_at v2 (k := k.1.toNat) (by omega)
      have hz1 : skipL inn ps (sk.take (i + 1)) = skipStep z k := by
        unfold skipL
        rw [List.take_succ_eq_append_getElem hlt, List.foldl_append, hz]
        simp only [List.foldl_cons, List.foldl_nil]
        rw [show sk[i] = k by rw [hk]; simp [List.getD_eq_getElem?_getD, hlt]]
        rfl
      simp only [f1, r0, r1, kE, eI, hiN, v3, nm_beq, Nat.reduceBEq, nB, nB', nS2, nS2', Nat.add_assoc, Nat.reduceAdd, List.length_map, Nat.add_zero, go_sem, Meths.get, meths, Nat.reduceSub, Nat.reduceAdd, Nat.reduceMul, Nat.reduceEqDiff, Nat.reduceLT, Nat.reduceLeDiff, Nat.reduceBEq, Nat.reduceBNe, reduceIte, reduceCtorEq, Int.reduceToNat, String.reduceEq]
      repeat refine And.intro (by first | omega | exact ⟨by omega, by omega⟩ | exact ⟨by omega, by omega, by omega⟩ | exact ⟨⟨by omega, by omega⟩, by omega, by omega⟩ | exact okDyn_num (fun x => x.i) (by kernel_rfl) | kernel_rfl | exact okDyn_num (fun _ => 0) (by kernel_rfl)) ?_
      refine CallVC.same (lead16_ok k.2 (z.1.getD k.1.toNat 0) a2 a3 b1 b2) ?_
      unfold skipStep at hz1
      cases hle : decide (0 ≤ lead k.2 (z.1.getD k.1.toNat 0) 16) with
      | false =>
        rw [if_neg (by simpa using hle)] at hz1
        simp only [f1, r0, hle, kE, eI, hiN, v3, nm_beq, Nat.reduceBEq, nB, nB', nS2, nS2', Nat.add_assoc, Nat.reduceAdd, List.length_map, Nat.add_zero, go_sem, Meths.get, meths, Nat.reduceSub, Nat.reduceAdd, Nat.reduceMul, Nat.reduceEqDiff, Nat.reduceLT, Nat.reduceLeDiff, Nat.reduceBEq, Nat.reduceBNe, reduceIte, reduceCtorEq, Int.reduceToNat, String.reduceEq]
        repeat refine And.intro (by first | omega | exact ⟨by omega, by omega⟩ | exact ⟨by omega, by omega, by omega⟩ | exact ⟨⟨by omega, by omega⟩, by omega, by omega⟩ | exact okDyn_num (fun x => x.i) (by kernel_rfl) | kernel_rfl | exact okDyn_num (fun _ => 0) (by kernel_rfl)) ?_
        refine ⟨i + 1, by omega, by omega, ?_⟩
        refine Sub.of (fun n hn => hF2 n (by have : n.l = L + 1 := hn; omega)) (by simp only [go_sem, resVal, resVals, resVal1, one, Wk, WkL, WkLL, wkN, wkNL, wkNLL, UpdIn, UpdAll, BW, plainP, plainPL, subT, subH, subK, and_self, true_or, or_true, List.not_mem_nil, List.mem_cons, forall_eq, imp_self, implies_true, Nat.reduceSub, Nat.reduceAdd, Nat.reduceMul, Nat.reduceEqDiff, Nat.reduceLT, Nat.reduceLeDiff, Nat.reduceBEq, Nat.reduceBNe, reduceIte, reduceCtorEq, Int.reduceToNat, String.reduceEq, Int.natCast_succ]) ?_ (by simp [subK, keys]) (by simp only []; split <;> omega)
        simp [subH, Tx.look, hz1, nm_beq, Nat.reduceBEq, nB, nB', nS2, nS2', Nat.add_assoc, Nat.reduceAdd]
      | true =>
        rw [if_pos (by simpa using hle)] at hz1
        simp only [f1, r0, hle, kE, eI, hiN, v3, nm_beq, Nat.reduceBEq, nB, nB', nS2, nS2', Nat.add_assoc, Nat.reduceAdd, List.length_map, Nat.add_zero, go_sem, Meths.get, meths, Nat.reduceSub, Nat.reduceAdd, Nat.reduceMul, Nat.reduceEqDiff, Nat.reduceLT, Nat.reduceLeDiff, Nat.reduceBEq, Nat.reduceBNe, reduceIte, reduceCtorEq, Int.reduceToNat, String.reduceEq]
        repeat refine And.intro (by first | omega | exact ⟨by omega, by omega⟩ | exact ⟨by omega, by omega, by omega⟩ | exact ⟨⟨by omega, by omega⟩, by omega, by omega⟩ | exact okDyn_num (fun x => x.i) (by kernel_rfl) | kernel_rfl | exact okDyn_num (fun _ => 0) (by kernel_rfl)) ?_
        refine CallVC.same (next_ok ⟨L + 1, 192⟩ ⟨L + 1, 194⟩ (.inr ⟨rfl, by simp only []; omega⟩) (.inr ⟨rfl, by simp only []; omega⟩) (by simp) ⟨L + 1, 193⟩ ⟨L + 1, 196⟩ out.length asked.length num seen (Nat.le_refl _) (Nat.le_refl _) k.1 k.2 z.1 v2 a1 (by omega) a2 a3 z.2 (by have := v1.len; omega) (fun x hx => (partOk_ok (v1.all x hx)).1) (by simp [v3]) (by simp)) ?_
        simp only [f1, r0, hle, kE, eI, hiN, v3, nm_beq, Nat.reduceBEq, nB, nB', nS2, nS2', Nat.add_assoc, Nat.reduceAdd, List.length_map, Nat.add_zero, go_sem, Meths.get, meths, Nat.reduceSub, Nat.reduceAdd, Nat.reduceMul, Nat.reduceEqDiff, Nat.reduceLT, Nat.reduceLeDiff, Nat.reduceBEq, Nat.reduceBNe, reduceIte, reduceCtorEq, Int.reduceToNat, String.reduceEq]
        repeat refine And.intro (by first | omega | exact ⟨by omega, by omega⟩ | exact ⟨by omega, by omega, by omega⟩ | exact ⟨⟨by omega, by omega⟩, by omega, by omega⟩ | exact okDyn_num (fun x => x.i) (by kernel_rfl) | kernel_rfl | exact okDyn_num (fun _ => 0) (by kernel_rfl)) ?_
        refine ⟨i + 1, by omega, by omega, ?_⟩
        refine Sub.of (fun n hn => hF2 n (by have : n.l = L + 1 := hn; omega)) (by simp only [go_sem, resVal, resVals, resVal1, one, Wk, WkL, WkLL, wkN, wkNL, wkNLL, UpdIn, UpdAll, BW, plainP, plainPL, subT, subH, subK, and_self, true_or, or_true, List.not_mem_nil, List.mem_cons, forall_eq, imp_self, implies_true, Nat.reduceSub, Nat.reduceAdd, Nat.reduceMul, Nat.reduceEqDiff, Nat.reduceLT, Nat.reduceLeDiff, Nat.reduceBEq, Nat.reduceBNe, reduceIte, reduceCtorEq, Int.reduceToNat, String.reduceEq, Int.natCast_succ]) ?_ (by simp [subK, keys]) (by simp only []; split <;> omega)
        simp [subH, Tx.look, hz1, nm_beq, Nat.reduceBEq, nB, nB', nS2, nS2', Nat.add_assoc, Nat.reduceAdd]
    · have f1 : decide ((i : Int) < (sk.length : Int)) = false := dF (by omega)
      have e : i = sk.length := by omega
      subst e
      have e3 : sk.take sk.length = sk := List.take_of_length_le (by omega)
      rw [e3] at hz
      simp only [f1, nm_beq, Nat.reduceBEq, nB, nB', nS2, nS2', Nat.add_assoc, Nat.reduceAdd, Nat.add_zero, go_sem, Meths.get, meths, Nat.reduceSub, Nat.reduceAdd, Nat.reduceMul, Nat.reduceEqDiff, Nat.reduceLT, Nat.reduceLeDiff, Nat.reduceBEq, Nat.reduceBNe, reduceIte, reduceCtorEq, Int.reduceToNat, String.reduceEq]
      refine CallVC.same (cut_ok ⟨L + 1, 192⟩ (Nat.le_refl _) true false (.sl ⟨L + 1, 193⟩ 0 out.length) (.sl ⟨L + 1, 194⟩ 0 inn.length) (.int .i64 num) (.int .i64 seen) (.sl ⟨L + 1, 196⟩ 0 asked.length) z.2 v1.len (fun x hx => (partOk_ok (v1.all x hx)).1) cum hc0 hc1 (by simp)) ?_
      obtain ⟨kept, hkept⟩ : ∃ x, x = cutG z.2 cum := ⟨_, rfl⟩
      rw [← hkept]
      simp only [nm_beq, Nat.reduceBEq, nB, nB', nS2, nS2', Nat.add_assoc, Nat.reduceAdd, Nat.add_zero, go_sem, Meths.get, meths, Nat.reduceSub, Nat.reduceAdd, Nat.reduceMul, Nat.reduceEqDiff, Nat.reduceLT, Nat.reduceLeDiff, Nat.reduceBEq, Nat.reduceBNe, reduceIte, reduceCtorEq, Int.reduceToNat, String.reduceEq]
      have hkl : kept.length ≤ 1000 := by rw [hkept]; exact Nat.le_trans (cutG_len _ _) (by have := v1.len; omega)
      refine CallVC.same (without_ok z.2 60 [] [.ptr ⟨L + 1, 32⟩ 0 0, .ptr ⟨L + 1, 1000128⟩ 0 0] (skB cum kept) [⟨L + 1, 32⟩, ⟨L + 1, 1000128⟩] (by simp) (by have := v1.len; omega) (fun x hx L' nx' hL => skip2_ok x (partOk_ok (v1.all x hx)).1 ⟨L + 1, 32⟩ ⟨L + 1, 1000128⟩ hL hL 75 31 true true true true cum hc0 hc1 (.fs 2 (sk.map kE)) kept hkl (by simp) (by simp))) ?_
      obtain ⟨ps2, hps2⟩ : ∃ x, x = withoutG z.2 (skB cum kept) := ⟨_, rfl⟩
      have hQ := v1.without (skB cum kept)
      rw [← hps2] at hQ ⊢
      have hQ2 := hQ.delP v2 (by omega)
      simp only [nm_beq, Nat.reduceBEq, nB, nB', nS2, nS2', Nat.add_assoc, Nat.reduceAdd, Nat.add_zero, go_sem, Meths.get, meths, Nat.reduceSub, Nat.reduceAdd, Nat.reduceMul, Nat.reduceEqDiff, Nat.reduceLT, Nat.reduceLeDiff, Nat.reduceBEq, Nat.reduceBNe, reduceIte, reduceCtorEq, Int.reduceToNat, String.reduceEq]
      refine CallVC.same (deliver_ok ⟨L + 1, 192⟩ ⟨L + 1, 194⟩ (.inr ⟨rfl, by simp⟩) (.inr ⟨rfl, by simp⟩) (by simp) ⟨L + 1, 193⟩ ⟨L + 1, 196⟩ out.length asked.length num seen (Nat.le_refl _) (Nat.le_refl _) z.1 ps2 hQ2 (by simp [v3]) (by simp)) ?_
      have hrl := delG_len ps2.length z.1 ps2 []
      have hsg : skipG inn ps cum sk = delG ps2.length z.1 ps2 [] := by
        unfold skipG skipP
        rw [← hz, ← hkept, ← hps2]
      rw [hsg]
      obtain ⟨r, hr⟩ : ∃ r, r = delG ps2.length z.1 ps2 [] := ⟨_, rfl⟩
      rw [← hr] at hrl ⊢
      simp only [nm_beq, Nat.reduceBEq, nB, nB', nS2, nS2', Nat.add_assoc, Nat.reduceAdd, v3, Nat.add_zero, go_sem, Meths.get, meths, Nat.reduceSub, Nat.reduceAdd, Nat.reduceMul, Nat.reduceEqDiff, Nat.reduceLT, Nat.reduceLeDiff, Nat.reduceBEq, Nat.reduceBNe, reduceIte, reduceCtorEq, Int.reduceToNat, String.reduceEq]
      have hrl2 := hrl.trans v3
      exact PostF.of (p := True) (v0 := .tup [.agg [.sl ⟨L + 1, 193⟩ 0 out.length, .sl ⟨L + 1, 194⟩ 0 inn.length, .fs 8 (r.2.1.map Dat.row), .int .i64 num, .int .i64 seen, .sl ⟨L + 1, 196⟩ 0 asked.length], .fs 4 (r.2.2.map Msg.row), .int .i64 0] ) (.inr rfl) (by simp only [resVal, resVals, resVal1, one, Nat.add_zero, go_sem, Meths.get, meths, Nat.reduceSub, Nat.reduceAdd, Nat.reduceMul, Nat.reduceEqDiff, Nat.reduceLT, Nat.reduceLeDiff, Nat.reduceBEq, Nat.reduceBNe, reduceIte, reduceCtorEq, Int.reduceToNat, String.reduceEq]) trivial (by simp [Wk, WkL, Tx.look, List.take_of_length_le, nB, nB', hrl2]) (by simp [wkN, wkNL]) (by simp [Tx.nf, nfl]) trivial (by simp [UpdAll, keys])
end Go.Proofs.Ytfhhbkehlfipgaa
end
