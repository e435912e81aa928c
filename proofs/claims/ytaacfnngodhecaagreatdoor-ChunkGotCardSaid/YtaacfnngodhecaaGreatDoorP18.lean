/- Lemmas for the walk: WK10, WC17, WC18, WC19, WD1, WC33, WK40, WK7, WK8, WK24, WK25. -/
import Derived.Test.YtaacfnngodhecaaGreatDoorP14
import Derived.Test.YtaacfnngodhecaaGreatDoorP17
import Derived.Test.YtaacfnngodhecaaGreatDoorP12
import Derived.Test.YtaacfnngodhecaaGreatDoorP16
set_option linter.all false
section
namespace Go.Proofs.YtaacfnngodhecaaGreatDoor
open Go.Tx
set_option maxRecDepth 100000
set_option maxHeartbeats 1000000
def befG (gs : List (Int × Int)) (i : Nat) : Int := if i = 0 then 0 else (gs.getD (i - 1) (0, 0)).2
def okGp (gs : List (Int × Int)) (i : Nat) : Bool := decide (befG gs i + 2 ≤ (gs.getD i (0, 0)).1) && (decide ((gs.getD i (0, 0)).1 ≤ (gs.getD i (0, 0)).2) && decide ((gs.getD i (0, 0)).2 ≤ 65535))
def sackV (cum win : Int) (gs : List (Int × Int)) (ds : List Int) : Bool :=
 (List.range gs.length).all (okGp gs) && ((serB 32 cum && serB 32 win) && (decide (gs.length ≤ 30) && (decide (ds.length ≤ 20) && ds.all (serB 32))))
def sackP (cum win : Int) (gs : List (Int × Int)) (ds : List Int) : PV := .agg [.int .i64 cum, .int .i64 win, .fs 2 (gs.map kE), .fs 1 (ds.map eI)]
theorem sackValid_ok {F : SF} {L nx : Nat} (cum win : Int) (gs : List (Int × Int)) (ds : List Int) (hlen : gs.length ≤ 1000000) (hdl : ds.length ≤ 1000000) : Con Tryz.prog 197 [sackP cum win gs ds] F L nx nx (.bool (sackV cum win gs ds)) [] [] := by
 refine bdy Tryz.f197 ?_
 intro F3 hF1 hF2
 simp only [Tryz.f197, cx, sackP, Nat.add_zero, go_sem, meths]
 refine loopK.intro _ _ (I := fun i : Nat => ⟨[none, some (.ptr ⟨L + 1, 0⟩ 0 0), none, some (.int .i64 (befG gs i)), none, none, none, none, some (.fs 2 (gs.map kE)), some (.int .i64 gs.length), some (.int .i64 i), none, none, none, none, none, none, none, none, none, none, none, none, none, none, none, none, none, none, none, none, none, none, none, none, none, none, none, none, none, none, none, none, none, none, none, none, none, none, none, none, none, none, none, none, none, none, none, none, none, none, none],
  [(⟨L + 1, 0⟩, .rows 153 4 true true [[.int .i64 cum, .int .i64 win, .fs 2 (gs.map kE), .fs 1 (ds.map eI)]])], 10000 * (i + 1)⟩) (pre := fun i => i ≤ gs.length ∧ ∀ j, j < i → okGp gs j = true) (μ := fun i => gs.length - i) 0 ⟨by omega, by intro j h; omega⟩ ?_ ?_
 ·refine Sub.of (hfz hF2) (by simp only [befG, if_true, go_sem, subT, and_self, List.length_map, Int.natCast_zero]) ?_ (by simp [subK, keys]) (by simp)
  simp [subH, Tx.look]
 ·rintro i ⟨hi, hp⟩
  have no : i < gs.length → okGp gs i = false → sackV cum win gs ds = false := by
   intro hl h
   unfold sackV
   rw [Bool.and_eq_false_iff]
   left
   rw [List.all_eq_false]
   exact ⟨i, by simpa using hl, by simp [h]⟩
  have yes : okGp gs i = true → ∀ j, j < i + 1 → okGp gs j = true := by
   intro h j hj
   by_cases he : j = i
   ·subst he; exact h
   ·exact hp j (by omega)
  have hbef : 0 ≤ befG gs i ∧ befG gs i ≤ 65535 := by
   have aux : ∀ j, j ≤ i → 0 ≤ befG gs j ∧ befG gs j ≤ 65535 := by
    intro j
    induction j with
    | zero => intro _; simp [befG]
    | succ j ih =>
     intro hj
     have h1 := ih (by omega)
     have h2 := hp j (by omega)
     unfold okGp at h2
     simp only [Bool.and_eq_true, decide_eq_true_eq] at h2
     simp only [befG, Nat.succ_ne_zero, if_false, Nat.add_sub_cancel] at *
     omega
   exact aux i (Nat.le_refl _)
  by_cases hlt : i < gs.length
  ·have f1 : decide ((i : Int) < (gs.length : Int)) = true := dT (by omega)
   have r0 := rowK hlt
   have hnext : befG gs (i + 1) = (gs.getD i (0, 0)).2 := by simp [befG]
   obtain ⟨k, hk⟩ : ∃ k, k = gs.getD i (0, 0) := ⟨_, rfl⟩
   rw [← hk] at r0 hnext
   cases h2 : decide (k.1 < befG gs i + 2) with
   | true =>
    rw [no hlt (by unfold okGp; rw [← hk, dF (by simp at h2; omega)]; rfl)]
    simp only [f1, r0, h2, kE, kS2, Nat.add_assoc, List.length_map, Nat.add_zero, go_sem]
    repeat refine sd1 ?_
    exact .bool (.inr rfl) rfl rfl (by simp [UpdAll])
   | false =>
    cases h3 : decide (k.2 < k.1) with
    | true =>
     rw [no hlt (by unfold okGp; rw [← hk, dT (by simp at h2; omega), dF (by simp at h3; omega)]; rfl)]
     simp only [f1, r0, h2, h3, kE, kS2, Nat.add_assoc, List.length_map, Nat.add_zero, go_sem]
     repeat refine sd1 ?_
     exact .bool (.inr rfl) rfl rfl (by simp [UpdAll])
    | false =>
     cases h4 : decide (65535 < k.2) with
     | true =>
      rw [no hlt (by unfold okGp; rw [← hk, dT (by simp at h2; omega), dT (by simp at h3; omega), dF (by simp at h4; omega)]; rfl)]
      simp only [f1, r0, h2, h3, h4, kE, kS2, Nat.add_assoc, List.length_map, Nat.add_zero, go_sem]
      repeat refine sd1 ?_
      exact .bool (.inr rfl) rfl rfl (by simp [UpdAll])
     | false =>
      simp only [f1, r0, h2, h3, h4, kE, kS2, Nat.add_assoc, List.length_map, Nat.add_zero, go_sem]
      repeat refine sd1 ?_
      refine ⟨i + 1, ⟨by omega, yes (by unfold okGp; rw [← hk, dT (by simp at h2; omega), dT (by simp at h3; omega), dT (by simp at h4; omega)]; rfl)⟩, by omega, ?_⟩
      refine Sub.of (hfz hF2) (by simp only [hnext, go_sem, subT, and_self, Int.natCast_succ]) ?_ (by simp [subK, keys]) (by simp only []; omega)
      simp [subH, Tx.look]
  ·have f1 : decide ((i : Int) < (gs.length : Int)) = false := dF (by omega)
   have hall : (List.range gs.length).all (okGp gs) = true := by
    rw [List.all_eq_true]
    intro j hj
    exact hp j (by have := List.mem_range.1 hj; omega)
   simp only [f1, kS2, Nat.add_assoc, Nat.add_zero, go_sem]
   refine CallVC.pure (args2 := [_, .fs 1 ([cum, win].map eI)]) ⟨rfl, by simp [Wk, eI], trivial⟩ (small_ok 32 [cum, win] (by omega) (by omega) (by simp)) rfl ?_
   have h6 : [cum, win].all (serB 32) = (serB 32 cum && serB 32 win) := by simp
   rw [h6]
   unfold sackV
   rw [hall]
   cases h7 : (serB 32 cum && serB 32 win) with
   | false =>
    simp only [wkNL, wkN, Nat.add_assoc, go_sem]
    exact .bool (.inr rfl) rfl rfl (by simp [UpdAll])
   | true =>
    cases h8 : decide ((gs.length : Int) ≤ 30) with
    | false =>
     have h8' : decide (gs.length ≤ 30) = false := dF (by simp at h8; omega)
     rw [h8']
     simp only [h8, wkNL, wkN, kS2', Nat.add_assoc, List.length_map, Nat.add_zero, go_sem]
     exact .bool (.inr rfl) rfl rfl (by simp [UpdAll])
    | true =>
     have h8' : decide (gs.length ≤ 30) = true := dT (by simp at h8; omega)
     rw [h8']
     cases h9 : decide ((ds.length : Int) ≤ 20) with
     | false =>
      have h9' : decide (ds.length ≤ 20) = false := dF (by simp at h9; omega)
      rw [h9']
      simp only [h8, h9, wkNL, wkN, kS2', Nat.add_assoc, List.length_map, Nat.add_zero, go_sem]
      exact .bool (.inr rfl) rfl rfl (by simp [UpdAll])
     | true =>
      have h9' : decide (ds.length ≤ 20) = true := dT (by simp at h9; omega)
      rw [h9']
      simp only [h8, h9, wkNL, wkN, kS2', Nat.add_assoc, List.length_map, Nat.add_zero, go_sem]
      refine CallVC.sameP (small_ok 32 ds (by omega) (by omega) hdl) rfl ?_
      simp only [Nat.add_assoc, go_sem]
      exact .bool (.inr rfl) rfl rfl (by simp [UpdAll])
theorem bputE_ok {F : SF} {L nx : Nat} (n : Nm) (k : Int) : Con Tryz.prog 64 [.ptr n 0 0, .int .i64 k, .fs 1 (([] : List Nat).map eN)] F L nx nx (.tup []) [] [] := by
 refine bdy Tryz.f64 ?_
 intro F3 hF1 hF2
 simp only [Tryz.f64, cx, go_sem, meths]
 refine loopK.unit ?_
 have f1 : decide ((0 : Int) < 0) = false := rfl
 simp only [f1, Int.natCast_zero, go_sem]
 exact PostF.of (p := True) (v0 := .tup []) (.inl rfl) (by simp only [resVal, resVals, one, go_sem]) trivial (by simp [Wk, WkL]) (by simp [wkN, wkNL]) (by simp [Tx.nf, nfl]) trivial (by simp [UpdAll])
def sackT (cum win : Nat) (gs : List (Nat × Nat)) (ds : List Nat) : List UInt8 :=
 (putB 4 cum ++ putB 4 win) ++ (putB 2 gs.length ++ putB 2 ds.length) ++ (gs.flatMap fun k => putB 2 k.1 ++ putB 2 k.2) ++ ds.flatMap (putB 4)
theorem sackWrite_ok {F : SF} {L nx : Nat} (n : Nm) (hn : n.l < L ∨ (n.l = L ∧ n.i < nx)) (cum win : Nat) (gs : List (Nat × Nat)) (ds : List Nat) (h1 : cum < 256 ^ 4) (h1w : win < 256 ^ 4) (h2 : ∀ k ∈ gs, k.1 < 256 ^ 2 ∧ k.2 < 256 ^ 2) (h3 : ∀ x ∈ ds, x < 256 ^ 4) (hlen : gs.length ≤ 30) (hdl : ds.length ≤ 20) (hb : bldF F n 130 none []) :
  Con Tryz.prog 198 [sackP cum win (gs.map kN) (ds.map fun x : Nat => (x : Int)), .ptr n 0 0] F L nx (nx + 1) (.tup [.int .i64 3, .int .i64 0]) (bldU n 130 ⟨L, nx⟩ (sackT cum win gs ds)) [n] := by
 refine bdyN Tryz.f198 (hrd := (by simp; omega)) ?_
 intro F3 hF1 hF2
 have hFb : bldF F3 n 130 none [] := ⟨rfl, hb.2.imp fun p h => (hF1 n (by simp)).trans h⟩
 have n1 : ∀ k, (n = (⟨L + 1, k⟩ : Nm)) = False := nm_out (by omega)
 have n2 : ∀ k, ((⟨L + 1, k⟩ : Nm) = n) = False := nm_out' (by omega)
 have hds : (ds.map fun x : Nat => (x : Int)).map eI = ds.map eN := by simp [eI, eN]
 simp only [Tryz.f198, cx, sackP, hds, Nat.add_zero, go_sem, meths]
 obtain ⟨t1, e1⟩ : ∃ t, t = putB 4 cum ++ putB 4 win := ⟨_, rfl⟩
 obtain ⟨t2, e2⟩ : ∃ t, t = t1 ++ (putB 2 gs.length ++ putB 2 ds.length) := ⟨_, rfl⟩
 have l1 : t1.length = 8 := by rw [e1, List.length_append, putB_len, putB_len]
 have l2 : t2.length = 12 := by rw [e2, List.length_append, List.length_append, putB_len, putB_len, l1]
 have z1 : t1 ≠ [] := by intro h; rw [h] at l1; simp at l1
 have z2 : t2 ≠ [] := by intro h; rw [h] at l2; simp at l2
 refine bput_call n (.inl (show n.l < L + 1 by omega)) none trivial [] 4 4 rfl (by omega) (by omega) [cum, win] (by simp; exact ⟨h1, h1w⟩) (by simp) (by simp) ⟨L + 1, 320⟩ 2 rfl (by simp [eN]) (by intro h; rw [n1] at h; exact h) (by simp) ⟨rfl, hFb.2.imp fun p h => by simp [h, n1]⟩ t1 (by simp [e1]) ?_
 simp only [bldD, bldU, n1, n2, List.length_map, Nat.add_zero, go_sem]
 refine bput_call n (.inl (show n.l < L + 1 by omega)) (some ⟨L + 1, 352⟩) (.inr ⟨rfl, by simp⟩) t1 2 2 rfl (by omega) (by omega) [gs.length, ds.length] (by simp; omega) (by simp) (by simp; omega) ⟨L + 1, 641⟩ 2 rfl (by simp [eN, n2]) (by intro h; rw [n1] at h; exact h) (by simp) ⟨z1, by simp [n1], by simp [n2], by simp [n2]⟩ t2 (by simp [e2]) ?_
 simp only [bldD, bldU, n1, n2, List.length_map, Nat.add_zero, go_sem]
 refine loopK.intro _ _ (I := fun z : Nat × Nat => ⟨[none, some (.ptr n 0 0), some (.ptr ⟨L + 1, 0⟩ 0 0), none, none, none, none, none, none, none, none, none, none, none, none, none, none, none, none, none, none, none, none, none, none, none, none, none, none, none, some (.fs 2 ((gs.map kN).map kE)), some (.int .i64 gs.length), some (.int .i64 z.1), none, none, none, none, none, none, none, none, none, none, none, none, none, none, none, none],
  (⟨L + 1, 0⟩, .rows 153 4 true true [[.int .i64 cum, .int .i64 win, .fs 2 ((gs.map kN).map kE), .fs 1 (ds.map eN)]]) :: bldU n 130 ⟨L + 1, z.2⟩ (t2 ++ (gs.take z.1).flatMap fun k => putB 2 k.1 ++ putB 2 k.2), 10000 * (z.1 + 1)⟩) (pre := fun z => z.1 ≤ gs.length ∧ z.2 < 10000 * (z.1 + 1) ∧ 0 < z.2) (μ := fun z => gs.length - z.1) (0, 673) ⟨by simp, by simp, by simp⟩ ?_ ?_
 ·refine Sub.of (hfz hF2) (by simp only [go_sem, subT, and_self, Int.natCast_zero]) ?_ (by simp [subK, keys, bldU]) (by simp)
  simp [subH, Tx.look, bldU, n1, n2]
 ·rintro ⟨i, q⟩ ⟨hi, hq, hq0⟩
  simp only at hi hq hq0 ⊢
  obtain ⟨t, ht⟩ : ∃ t, t = t2 ++ (gs.take i).flatMap fun k => putB 2 k.1 ++ putB 2 k.2 := ⟨_, rfl⟩
  rw [← ht]
  have htl : t.length = 12 + 4 * i := by rw [ht, List.length_append, skT_len, l2, List.length_take]; omega
  have htz : t ≠ [] := by intro h; rw [h] at htl; simp at htl; omega
  have q1 : ∀ c, (10000 * (i + 1) + c = q) = False := fun c => by apply eq_false; omega
  have q2 : ∀ c, (q = 10000 * (i + 1) + c) = False := fun c => by apply eq_false; omega
  have q3 : (q = 0) = False := by apply eq_false; omega
  have q4 : (0 = q) = False := by apply eq_false; omega
  have q5 : (10000 * (i + 1) = q) = False := by apply eq_false; omega
  have q6 : (q = 10000 * (i + 1)) = False := by apply eq_false; omega
  by_cases hlt : i < gs.length
  ·have f1 : decide ((i : Int) < (gs.length : Int)) = true := dT (by omega)
   have r0 := rowK (sk := gs.map kN) (i := i) (by simpa using hlt)
   obtain ⟨k, hk⟩ : ∃ k, k = gs[i] := ⟨_, rfl⟩
   have e0 : (gs.map kN).getD i (0, 0) = kN k := by rw [hk]; simp [hlt, List.getD_eq_getElem?_getD]
   rw [e0] at r0
   have hkb := h2 k (by rw [hk]; exact List.getElem_mem hlt)
   simp only [f1, r0, kE, kN, bldU, n2, q1, kS2, kS3, Nat.add_assoc, List.length_map, Nat.add_zero, go_sem]
   repeat refine sd1 ?_
   have ht2 : t ++ (putB 2 k.1 ++ putB 2 k.2) = t2 ++ (gs.take (i + 1)).flatMap fun k => putB 2 k.1 ++ putB 2 k.2 := by
    rw [ht, List.take_succ_eq_append_getElem hlt, List.flatMap_append, ← hk, ← List.append_assoc]; simp
   refine bput_call n (.inl (show n.l < L + 1 by omega)) (some ⟨L + 1, q⟩) (.inr ⟨rfl, by simp only []; omega⟩) t 2 2 rfl (by omega) (by omega) [k.1, k.2] (by simp; exact hkb) (by simp) (by simp; omega) ⟨L + 1, 10000 * (i + 1) + 320⟩ 2 rfl (by simp [eN, n2, q1]) (by intro h; rw [n1] at h; exact h) (by simp [q2]) ⟨htz, by simp [n1], by simp [n2, q3], by simp [n2]⟩ (t2 ++ (gs.take (i + 1)).flatMap fun k => putB 2 k.1 ++ putB 2 k.2) (by rw [← ht2]; simp) ?_
   simp only [bldD, bldU, n1, n2, q1, q2, q3, kS2, kS3, Nat.add_assoc, go_sem]
   repeat refine sd1 ?_
   refine ⟨(i + 1, 10000 * (i + 1) + 352), ⟨by simp only []; omega, by simp only []; omega, by simp only []; omega⟩, by simp only []; omega, ?_⟩
   refine Sub.o hF2 ?_
   simp [subH, Tx.look, n1, n2, q1]
  ·have f1 : decide ((i : Int) < (gs.length : Int)) = false := dF (by omega)
   have e : i = gs.length := by omega
   subst e
   simp only [f1, bldU, n2, q4, Nat.add_assoc, Nat.add_zero, go_sem]
   have htT : t ++ ds.flatMap (putB 4) = sackT cum win gs ds := by
    rw [ht, List.take_of_length_le (Nat.le_refl _), e2, e1]; rfl
   by_cases hd0 : ds = []
   ·subst hd0
    simp only [List.flatMap_nil, List.append_nil] at htT
    rw [← htT]
    refine CallVC.same (bputE_ok n 4) ?_
    simp only [Nat.add_assoc, go_sem]
    refine .now (PostN.val [q] (.inr rfl) (by simp) (p := True) (v0 := .tup [.int .i64 3, .int .i64 0]) ?_ trivial ?_ ?_ ⟨by omega, ?_, Nat.le_refl _, ?_, trivial⟩ ?_)
    ·simp only [resVal, resVals, resVal1, one, go_sem]
    ·simp [nmA, nmAL]
    ·simp [Tx.rn, Tx.rnL]
    ·rw [kp_out (hn.imp id fun h => .inl h.2)]
     exact .ren (by simp [Tx.look, n1]; rfl) (by simp [rowsNm, nmA, nmAL, Dn]; omega) (by simp [Tx.rn, Tx.rnL, sg_out (show n.l ≤ L by omega)]; simp [sg])
    ·rw [kp_at0 (by simp)]
     exact .pure (by simp [Tx.look, n2, q3])
    ·simp [UpdAll, keys]
   ·refine CallVC.same (bput_ok n (.inl (show n.l < L + 1 by omega)) (some ⟨L + 1, q⟩) (.inr ⟨rfl, by simp only []; omega⟩) t 4 (by omega) (by omega) ds h3 hd0 (by omega) ⟨htz, by simp [n1], by simp [n2, q3], by simp [n2]⟩) ?_
    rw [htT]
    simp only [bldD, bldU, n1, n2, q1, q3, kS2, Nat.add_assoc, go_sem]
    refine .now (PostN.val [10000 * (gs.length + 1) + 160] (.inr rfl) (by simp) (p := True) (v0 := .tup [.int .i64 3, .int .i64 0]) ?_ trivial ?_ ?_ ⟨by omega, ?_, Nat.le_refl _, ?_, trivial⟩ ?_)
    ·simp only [resVal, resVals, resVal1, one, go_sem]
    ·simp [nmA, nmAL]
    ·simp [Tx.rn, Tx.rnL]
    ·rw [kp_out (hn.imp id fun h => .inl h.2)]
     exact .ren (by simp [Tx.look, n1]; rfl) (by simp [rowsNm, nmA, nmAL, Dn]; omega) (by simp [Tx.rn, Tx.rnL, sg_out (show n.l ≤ L by omega)]; simp [sg])
    ·rw [kp_at0 (by simp)]
     exact .pure (by simp [Tx.look, n2, q1])
    ·simp [UpdAll, keys]
theorem methsSv : Meths.get meths 153 "tannoy/chunk.valid" = some 197 := by simp [Meths.get, meths]
theorem methsSw : Meths.get meths 153 "tannoy/chunk.write" = some 198 := by simp [Meths.get, meths]
theorem sackV_all {cum win : Int} {gs : List (Int × Int)} {ds : List Int} (h : sackV cum win gs ds = true) : (∀ k ∈ gs, (0 ≤ k.1 ∧ k.1 < 65536) ∧ (0 ≤ k.2 ∧ k.2 < 65536)) ∧ serB 32 cum = true ∧ serB 32 win = true ∧ gs.length ≤ 30 ∧ ds.length ≤ 20 ∧ ∀ x ∈ ds, serB 32 x = true := by
 unfold sackV at h
 simp only [Bool.and_eq_true, decide_eq_true_eq] at h
 obtain ⟨h1, ⟨h2, h3⟩, h4, h5, h6⟩ := h
 rw [List.all_eq_true] at h1 h6
 have ok : ∀ j, j < gs.length → befG gs j + 2 ≤ (gs.getD j (0, 0)).1 ∧ (gs.getD j (0, 0)).1 ≤ (gs.getD j (0, 0)).2 ∧ (gs.getD j (0, 0)).2 ≤ 65535 := by
  intro j hj
  have := h1 j (by simpa using hj)
  unfold okGp at this
  simpa only [Bool.and_eq_true, decide_eq_true_eq] using this
 have bef : ∀ j, j ≤ gs.length → 0 ≤ befG gs j := by
  intro j
  induction j with
  | zero => intro _; simp [befG]
  | succ j ih =>
   intro hj
   have h7 := ih (by omega)
   have h8 := ok j (by omega)
   have h9 : befG gs (j + 1) = (gs.getD j (0, 0)).2 := by simp [befG]
   omega
 refine ⟨fun k hk => ?_, h2, h3, h4, h5, h6⟩
 obtain ⟨j, hj, rfl⟩ := List.getElem_of_mem hk
 have h8 := ok j hj
 have h9 := bef j (by omega)
 have e : gs.getD j (0, 0) = gs[j] := by simp [hj, List.getD_eq_getElem?_getD]
 rw [e] at h8
 omega
def sackO (cum win : Int) (gs : List (Int × Int)) (ds : List Int) : List UInt8 := sackT cum.toNat win.toNat (gs.map fun k => (k.1.toNat, k.2.toNat)) (ds.map Int.toNat)
theorem putSack_ok {F : SF} {L nx : Nat} (cum win : Int) (gs : List (Int × Int)) (ds : List Int) (hlen : gs.length ≤ 1000000) (hdl : ds.length ≤ 1000000) : Con Tryz.prog 26 [sackP cum win gs ds] F L nx nx
   (if sackV cum win gs ds then .tup [.agg [.int .i64 3, .int .i64 0, .str (sackO cum win gs ds)], .int .i64 0] else .tup [.agg [.int .i64 0, .int .i64 0, .str []], .int .i64 320]) [] [] := by
 have hva : ∀ (F : SF) (L nx : Nat), Con Tryz.prog 197 [sackP cum win gs ds] F L nx nx (.bool (sackV cum win gs ds)) [] [] := fun F L nx => sackValid_ok cum win gs ds hlen hdl
 cases hV : sackV cum win gs ds with
 | false =>
  rw [hV] at hva
  simp only [if_false, Bool.false_eq_true]
  refine bdy Tryz.f26 ?_
  intro F3 hF1 hF2
  simp only [Tryz.f26, cx, sackP, go_sem, meths]
  refine CallVC.same (putBad_ok 153 _ 197 methsSv hva) ?_
  simp only [go_sem]
  exact PostF.same (p := True) (.inr rfl) (by simp only [resVal, resVals, resVal1, one, go_sem]) trivial (by simp [Tx.nf, nfl]) (by simp [UpdAll])
 | true =>
  rw [hV] at hva
  simp only [if_true]
  obtain ⟨b1, b2, b3, b4, b5, b6⟩ := sackV_all hV
  obtain ⟨e2, c2⟩ := serB_nat b2
  obtain ⟨e3, c3⟩ := serB_nat b3
  have hgs : (gs.map fun k => (k.1.toNat, k.2.toNat)).map kN = gs := by
   rw [List.map_map]
   conv => rhs; rw [← List.map_id gs]
   apply List.map_congr_left
   intro k hk
   have := b1 k hk
   simp only [Function.comp, kN, id]
   apply Prod.ext <;> simp only [] <;> omega
  have hds : (ds.map Int.toNat).map (fun x : Nat => (x : Int)) = ds := by
   rw [List.map_map]
   conv => rhs; rw [← List.map_id ds]
   apply List.map_congr_left
   intro x hx
   have := (serB_nat (b6 x hx)).1
   simp only [Function.comp, id]
   omega
  have hw : ∀ (F : SF) (L nx : Nat) (n : Nm), (n.l < L ∨ (n.l = L ∧ n.i < nx)) → bldF F n 130 none [] → Con Tryz.prog 198 [sackP cum win gs ds, .ptr n 0 0] F L nx (nx + 1) (.tup [.int .i64 3, .int .i64 0]) (bldU n 130 ⟨L, nx⟩ (sackO cum win gs ds)) [n] := by
   intro F L nx n hn hb
   have := sackWrite_ok (F := F) (L := L) (nx := nx) n hn cum.toNat win.toNat (gs.map fun k => (k.1.toNat, k.2.toNat)) (ds.map Int.toNat) c2 c3 (fun k hk => by
    obtain ⟨k', hk', rfl⟩ := List.mem_map.1 hk
    have := b1 k' hk'
    simp only []
    omega) (fun x hx => by
    obtain ⟨x', hx', rfl⟩ := List.mem_map.1 hx
    exact (serB_nat (b6 x' hx')).2) (by simpa using b4) (by simpa using b5) hb
   rw [hgs, hds, ← e2, ← e3] at this
   exact this
  have hlenO : (sackO cum win gs ds).length = 12 + 4 * gs.length + ds.length * 4 := by
   unfold sackO sackT
   simp only [List.length_append, putB_len, skT_len, flat_len, List.length_map]
  refine bdy Tryz.f26 ?_
  intro F3 hF1 hF2
  simp only [Tryz.f26, cx, sackP, go_sem, meths]
  refine CallVC.same (putGood_ok 153 _ 197 198 methsSv methsSw hva 3 0 (sackO cum win gs ds) ?_ ?_ hw) ?_
  ·intro h
   rw [h] at hlenO
   simp at hlenO
   omega
  ·omega
  simp only [go_sem]
  exact PostF.same (p := True) (.inr rfl) (by simp only [resVal, resVals, resVal1, one, go_sem]) trivial (by simp [Tx.nf, nfl]) (by simp [UpdAll])
end Go.Proofs.YtaacfnngodhecaaGreatDoor
end
section
namespace Go.Proofs.YtaacfnngodhecaaGreatDoor
open Go.Tx
set_option maxRecDepth 100000
set_option maxHeartbeats 2000000
end Go.Proofs.YtaacfnngodhecaaGreatDoor
end
section
namespace Go.Proofs.YtaacfnngodhecaaGreatDoor
open Go.Tx
set_option maxRecDepth 100000
set_option maxHeartbeats 2000000
end Go.Proofs.YtaacfnngodhecaaGreatDoor
end
section
namespace Go.Proofs.YtaacfnngodhecaaGreatDoor
open Go.Tx
set_option maxRecDepth 100000
set_option maxHeartbeats 2000000
end Go.Proofs.YtaacfnngodhecaaGreatDoor
end
section
namespace Go.Proofs.YtaacfnngodhecaaGreatDoor
open Go.Tx
set_option maxRecDepth 100000
set_option maxHeartbeats 16000000
theorem PsOk.without {inn : List Int} {ps : List Dat} (h : PsOk inn ps) (p : Dat → Bool) : PsOk inn (withoutG ps p) where
 len := Nat.le_trans (List.length_filter_le _ _) h.len
 all := fun d hd => h.all d (List.mem_filter.1 hd).1
 nodup := List.Nodup.sublist (List.Sublist.map _ List.filter_sublist) h.nodup
theorem PsOk.next {inn : List Int} {ps : List Dat} (h : PsOk inn ps) (st sq : Int) (hst : 0 ≤ st) : PsOk (nextI inn st sq) (nextP inn ps st sq) := by
 have hw := h.without (oldB (nextI inn st sq) st)
 refine ⟨hw.len, fun d hd => ?_, hw.nodup⟩
 have hm := List.mem_filter.1 hd
 obtain ⟨a1, a2, a3⟩ := partOk_ok (h.all d hm.1)
 have hb := Dat.ok_bounds a1
 unfold partOk
 rw [a1, nextI_len]
 simp only [Bool.true_and, Bool.and_eq_true, decide_eq_true_eq, Bool.or_eq_true]
 refine ⟨a2, ?_⟩
 by_cases hs : d.st = st
 ·have := hm.2
  simp only [oldB, hs, beq_self_eq_true, Bool.true_and, Bool.not_eq_true', Bool.and_eq_false_iff, Bool.not_eq_false', decide_eq_false_iff_not] at this
  rcases this with h | h
  ·exact .inl h
  ·right; rw [hs]; omega
 ·rcases a3 with h | h
  ·exact .inl h
  ·right
   have : (nextI inn st sq).getD d.st.toNat 0 = inn.getD d.st.toNat 0 := by
    unfold nextI
    rw [List.getD_eq_getElem?_getD, List.getElem?_set_ne (by omega), ← List.getD_eq_getElem?_getD]
   rw [this]; exact h
theorem Str0.inn {out inn inn2 asked : List Int} {num seen : Int} (h : Str0 out inn num seen asked) (hl : inn2.length = inn.length) (hi : inn2.all (serB 16) = true) : Str0 out inn2 num seen asked :=
 ⟨h.o1, h.o2, h.o3, by rw [hl]; exact h.i1, by rw [hl]; exact h.i2, hi, h.n, h.s, h.a, h.a2⟩
theorem okS {a : List Oper} {b : Nat} (h : okStatic a b = true) : okStatic a b = true := h
theorem rPairs_ok {F : SF} {L nx : Nat} (xs ys : List (Int × Int)) (hx : xs.length ≤ 1000000) (hy : ys.length ≤ 1000000) :
  Con Tryz.prog 98 [.fs 2 (xs.map kE), .fs 2 (ys.map kE)] F L nx nx (.bool (xs == ys)) [] [] := by
 refine bdy Tryz.f98 ?_
 intro F3 hF1 hF2
 simp only [Tryz.f98, cx, go_sem, meths]
 simp only [List.length_map]
 refine brB.mk (fun hne => ?_) (fun heq => ?_)
 ·refine .bool (.inr rfl) rfl ?_ trivial
  symm
  simp only [beq_eq_false_iff_ne]
  rintro rfl
  simp at hne
 ·have hl : xs.length = ys.length := by have := heq; simp at this; omega
  refine loopK.intro _ _ (I := fun i : Nat => ⟨[some (.fs 2 (xs.map kE)), some (.fs 2 (ys.map kE)), none, none, none, some (.int .i64 i), none, none, none, none, none, none, none, none, none, none, none, none, none, none, none, none, none, none, none, none], [], 10000 * (i + 1)⟩) (pre := fun i => i ≤ xs.length ∧ ∀ j, j < i → xs.getD j (0, 0) = ys.getD j (0, 0)) (μ := fun i => xs.length - i) 0 ⟨by omega, by intro j h; omega⟩ ?_ ?_
  ·exact Sub.of (hfz hF2) (by simp only [go_sem, subT, and_self, Int.natCast_zero]) trivial trivial (by simp)
  ·rintro i ⟨hi, hp⟩
   by_cases hlt : i < xs.length
   ·have f1 : decide ((i : Int) < (xs.length : Int)) = true := dT (by omega)
    have r0 := rowK hlt
    have r1 := rowK (sk := ys) (i := i) (by omega)
    have i1 : Go.Sx.inI64 ((i : Int) + 1) := ⟨by omega, by omega⟩
    obtain ⟨x, hx0⟩ : ∃ x, x = xs.getD i (0, 0) := ⟨_, rfl⟩
    obtain ⟨y, hy0⟩ : ∃ y, y = ys.getD i (0, 0) := ⟨_, rfl⟩
    rw [← hx0] at r0
    rw [← hy0] at r1
    by_cases hxy : x = y
    ·have b1 : (!(x.1 == y.1 && x.2 == y.2)) = false := by rw [hxy]; simp
     simp only [f1, r0, r1, kE, b1, List.length_map, Nat.add_assoc, go_sem]
     refine ⟨by kernel_rfl, ⟨by omega, by omega⟩, hlt, ⟨by omega, by omega⟩, by omega, okDyn_num (fun x => x.i % 10000) (by simp only [numF, List.map]; kernel_rfl), i1, i + 1, ⟨by omega, fun j hj => ?_⟩, by omega, ?_⟩
     ·rcases Nat.lt_or_ge j i with h | h
      ·exact hp j h
      ·have : j = i := by omega
       subst this
       rw [← hx0, ← hy0, hxy]
     ·exact Sub.of (hfz hF2) (by simp only [go_sem, subT, and_self, Int.natCast_succ]) trivial trivial (by simp; omega)
    ·have b1 : (!(x.1 == y.1 && x.2 == y.2)) = true := by
      cases hb : (x.1 == y.1 && x.2 == y.2) with
      | false => rfl
      | true =>
       simp only [Bool.and_eq_true, beq_iff_eq] at hb
       exact absurd (Prod.ext hb.1 hb.2) hxy
     simp only [f1, r0, r1, kE, b1, List.length_map, Nat.add_assoc, go_sem]
     refine ⟨by kernel_rfl, ⟨by omega, by omega⟩, hlt, ⟨by omega, by omega⟩, by omega, okDyn_num (fun x => x.i % 10000) (by simp only [numF, List.map]; kernel_rfl), ?_⟩
     refine .bool (.inr rfl) rfl ?_ trivial
     symm
     simp only [beq_eq_false_iff_ne]
     rintro rfl
     exact hxy (hx0.trans hy0.symm)
   ·have f1 : decide ((i : Int) < (xs.length : Int)) = false := dF (by omega)
    simp only [f1, List.length_map, go_sem]
    refine .bool (.inr rfl) rfl ?_ trivial
    symm
    simp only [beq_iff_eq]
    apply List.ext_getElem hl
    intro k h1 h2
    have := hp k (by omega)
    simpa [List.getD_eq_getElem?_getD, h1, h2] using this
theorem sameFwd_ok {F : SF} {L nx : Nat} (c c' : Int) (xs ys : List (Int × Int)) (hx : xs.length ≤ 1000000) (hy : ys.length ≤ 1000000) :
  Con Tryz.prog 49 [fwdP c xs, fwdP c' ys] F L nx nx (.bool (c == c' && xs == ys)) [] [] := by
 refine bdy Tryz.f49 ?_
 intro F3 hF1 hF2
 cases h : (c == c') with
 | true =>
  simp only [Tryz.f49, cx, fwdP, h, Nat.add_zero, go_sem, meths]
  refine CallVC.same (rPairs_ok xs ys hx hy) ?_
  simp only [go_sem]
  exact .bool (.inr rfl) rfl rfl (by simp [UpdAll])
 | false =>
  simp only [Tryz.f49, cx, fwdP, h, Nat.add_zero, go_sem, meths]
  exact .bool (.inr rfl) rfl rfl (by simp [UpdAll])
theorem sameSck_ok {F : SF} {L nx : Nat} (a b a' b' : Int) (gs gs' : List (Int × Int)) (ds ds' : List Int) (h1 : gs.length ≤ 1000000) (h2 : gs'.length ≤ 1000000) (h3 : ds.length ≤ 1000000) (h4 : ds'.length ≤ 1000000) :
  Con Tryz.prog 48 [sackP a b gs ds, sackP a' b' gs' ds'] F L nx nx (.bool (a == a' && (b == b' && (gs == gs' && ds == ds')))) [] [] := by
 refine bdy Tryz.f48 ?_
 intro F3 hF1 hF2
 cases ha : (a == a') with
 | false =>
  simp only [Tryz.f48, cx, sackP, ha, Nat.add_zero, go_sem, meths]
  exact .bool (.inr rfl) rfl rfl (by simp [UpdAll])
 | true =>
  cases hb : (b == b') with
  | false =>
   simp only [Tryz.f48, cx, sackP, ha, hb, Nat.add_zero, go_sem, meths]
   exact .bool (.inr rfl) rfl rfl (by simp [UpdAll])
  | true =>
   simp only [Tryz.f48, cx, sackP, ha, hb, Nat.add_zero, go_sem, meths]
   refine CallVC.same (rPairs_ok gs gs' h1 h2) ?_
   cases hg : (gs == gs') with
   | false =>
    simp only [go_sem]
    exact .bool (.inr rfl) rfl rfl (by simp [UpdAll])
   | true =>
    simp only [go_sem]
    refine CallVC.same (ints_ok ds ds' h3 h4) ?_
    simp only [go_sem]
    exact .bool (.inr rfl) rfl rfl (by simp [UpdAll])
theorem sameRst_ok {F : SF} {L nx : Nat} (a b c d a' b' c' d' : Int) (xs ys : List Int) (h1 : xs.length ≤ 1000000) (h2 : ys.length ≤ 1000000) :
  Con Tryz.prog 50 [rstP a b c d (.fs 1 (xs.map eI)), rstP a' b' c' d' (.fs 1 (ys.map eI))] F L nx nx (.bool (a == a' && (b == b' && (c == c' && (d == d' && xs == ys))))) [] [] := by
 refine bdy Tryz.f50 ?_
 intro F3 hF1 hF2
 cases ha : (a == a') with
 | false =>
  simp only [Tryz.f50, cx, rstP, ha, Nat.add_zero, go_sem, meths]
  exact .bool (.inr rfl) rfl rfl (by simp [UpdAll])
 | true =>
  cases hb : (b == b') with
  | false =>
   simp only [Tryz.f50, cx, rstP, ha, hb, Nat.add_zero, go_sem, meths]
   exact .bool (.inr rfl) rfl rfl (by simp [UpdAll])
  | true =>
   cases hc : (c == c') with
   | false =>
    simp only [Tryz.f50, cx, rstP, ha, hb, hc, Nat.add_zero, go_sem, meths]
    exact .bool (.inr rfl) rfl rfl (by simp [UpdAll])
   | true =>
    cases hd : (d == d') with
    | false =>
     simp only [Tryz.f50, cx, rstP, ha, hb, hc, hd, Nat.add_zero, go_sem, meths]
     exact .bool (.inr rfl) rfl rfl (by simp [UpdAll])
    | true =>
     simp only [Tryz.f50, cx, rstP, ha, hb, hc, hd, Nat.add_zero, go_sem, meths]
     refine CallVC.same (ints_ok xs ys h1 h2) ?_
     simp only [go_sem]
     exact .bool (.inr rfl) rfl rfl (by simp [UpdAll])
def someX (s : List UInt8) (n : Nat) : List UInt8 := if s = [] then [120] else s.take n
theorem someX_ne (s : List UInt8) {n : Nat} (h : 1 ≤ n) : someX s n ≠ [] := by
 unfold someX
 split
 ·simp
 ·rename_i hs
  cases s with
  | nil => exact absurd rfl hs
  | cons a l => intro hc; cases n with
   | zero => omega
   | succ n => simp at hc
theorem someX_len (s : List UInt8) (n : Nat) (h : 1 ≤ n) : (someX s n).length ≤ n ∧ 1 ≤ (someX s n).length := by
 have h1 := someX_ne s h
 refine ⟨?_, List.length_pos_iff.2 h1⟩
 unfold someX
 split
 ·simpa using h
 ·rw [List.length_take]; omega
theorem rSome_ok {F : SF} {L nx : Nat} (s : List UInt8) (n : Nat) (a : Int) (ha : a = n) (hs : s.length ≤ maxLen) : Con Tryz.prog 77 [.str s, .int .i64 a] F L nx nx (.str (someX s n)) [] [] := by
 subst ha
 refine bdy Tryz.f77 ?_
 intro F3 hF1 hF2
 by_cases h : s = []
 ·have f1 : (s == ([] : List UInt8)) = true := by rw [h]; rfl
  simp only [Tryz.f77, cx, f1, go_sem, meths]
  rw [someX, if_pos h]
  exact PostF.rs (v0 := .str [120]) (.inr rfl)
 ·have f1 : (s == ([] : List UInt8)) = false := by simpa using h
  simp only [Tryz.f77, cx, f1, go_sem, meths]
  repeat refine sd2 ?_
  have e1 : List.take ((min (s.length : Int) n).toNat - 0) s = someX s n := by
   rw [someX, if_neg h, List.take_eq_take_iff]; omega
  rw [e1]
  exact PostF.rs (v0 := .str (someX s n)) (.inr rfl)
theorem rest_ok {F : SF} {L nx : Nat} (r : Nm) (hr : r.l ≤ L) (s : List UInt8) (p : Nat) (hp : p ≤ s.length) (hl : s.length ≤ 1000000) (hF : F r = some (rdB s p)) :
  Con Tryz.prog 86 [.ptr r 0 0] F L nx nx (.str (s.drop p)) [(r, rdB s s.length)] [r] := by
 refine bdy Tryz.f86 (hrd := (by simp; omega)) ?_
 intro F3 hF1 hF2
 have kr : F3 r = some (rdB s p) := (hF1 r (by simp)).trans hF
 have n1 : ∀ k, (r = (⟨L + 1, k⟩ : Nm)) = False := nm_out hr
 have n2 : ∀ k, ((⟨L + 1, k⟩ : Nm) = r) = False := nm_out' hr
 have e1 : p + (s.length - p) = s.length := by omega
 have e2 : (s.drop p).take (s.length - p) = s.drop p := List.take_of_length_le (by simp)
 simp only [Tryz.f86, cx, rdB, kr, Nat.add_zero, go_sem, meths]
 repeat refine sd1 ?_
 refine CallVC.same (rtake_ok r (by omega) s p (s.length - p) _ (by omega) (by omega) hl (by simp [rdB, kr])) ?_
 rw [e1, e2]
 simp only [rdB, go_sem]
 refine ⟨okDyn_num (fun x => if x = r then 1 else x.i % 10000 + 100) (by simp only [numF, List.map, if_true]; kernel_rfl), ?_⟩
 exact PostF.of (p := True) (v0 := .str (s.drop p)) (.inr rfl) (by simp only [resVal, resVals, resVal1, one, go_sem]) trivial (by simp [Wk]) (by simp [wkN]) (by simp [Tx.nf]) ⟨hr, by simp [BW, Tx.look], trivial⟩ (by simp [UpdAll, keys])
def datK (fl : Int) (s : List UInt8) : List PV :=
  [.int .i64 (getB (s.take 4)), .int .i64 (getB ((s.drop 4).take 2)), .int .i64 (getB ((s.drop 6).take 2)), .int .i64 (getB ((s.drop 8).take 4)),
   .bool (decide (Sx.ibits .and .i64 fl 2 > 0)), .bool (decide (Sx.ibits .and .i64 fl 1 > 0)), .bool (decide (Sx.ibits .and .i64 fl 4 > 0)), .str (s.drop 12)]
theorem data1_ok {F : SF} (nc : Nm) (k fl : Int) (s s2 : List UInt8) (oc : Bool) (hc : F nc = some (.rows 34 3 oc true [[.int .i64 k, .int .i64 fl, .str s2]])) (hs : 12 ≤ s.length) (hl : s.length ≤ 1000000) :
  OfOk 85 [] [.ptr nc 0 0] s (.agg (datK fl s)) s.length F [nc] := by
 intro F' L r nx hF' hr hrd hFr
 have hcl : nc.l ≤ L := hrd nc (by simp)
 have hne : nc ≠ r := by
  rintro rfl
  rw [hF' nc (by simp), hc] at hFr
  simp [rdB] at hFr
 simp only [List.nil_append, List.cons_append]
 refine bdy Tryz.f85 (hrd := (by simp; omega)) ?_
 intro F3 hF1 hF2
 have kr : F3 r = some (rdB s 0) := (hF1 r (by simp)).trans hFr
 have kc : F3 nc = some (.rows 34 3 oc true [[.int .i64 k, .int .i64 fl, .str s2]]) := (hF1 nc (by simp)).trans ((hF' nc (by simp)).trans hc)
 have n1 : ∀ k, (r = (⟨L + 1, k⟩ : Nm)) = False := nm_out hr
 have n2 : ∀ k, ((⟨L + 1, k⟩ : Nm) = r) = False := nm_out' hr
 have c1 : ∀ k, (nc = (⟨L + 1, k⟩ : Nm)) = False := nm_out hcl
 have c2 : ∀ k, ((⟨L + 1, k⟩ : Nm) = nc) = False := nm_out' hcl
 have e1 : (nc = r) = False := eq_false hne
 simp only [Tryz.f85, cx, rdB, go_sem, meths]
 refine CallVC.same (number_ok r (by omega) s 0 4 4 rfl (by omega) (by omega) (by omega) hl (by simp [rdB, kr, n1])) ?_
 simp only [rdB, n1, go_sem]
 refine CallVC.same (number_ok r (by omega) s 4 2 2 rfl (by omega) (by omega) (by omega) hl (by simp [rdB, n1])) ?_
 simp only [rdB, n1, go_sem]
 refine CallVC.same (number_ok r (by omega) s 6 2 2 rfl (by omega) (by omega) (by omega) hl (by simp [rdB, n1])) ?_
 simp only [rdB, n1, go_sem]
 refine CallVC.same (number_ok r (by omega) s 8 4 4 rfl (by omega) (by omega) (by omega) hl (by simp [rdB, n1])) ?_
 simp only [kc, c1, e1, rdB, n1, n2, go_sem]
 refine ⟨by kernel_rfl, okDyn_num (fun x => if x = nc then 1 else x.i % 10000 + 100) (by simp only [numF, List.map, c2, if_true, if_false]; kernel_rfl), ?_⟩
 refine CallVC.same (rest_ok r (by omega) s 12 (by omega) hl (by simp [rdB, n1])) ?_
 simp only [rdB, n1, n2, go_sem]
 repeat refine sd1 ?_
 exact PostF.of (p := True) (v0 := .agg (datK fl s)) (.inr rfl) (by simp only [datK, resVal, resVals, resVal1, one, List.drop_zero, go_sem]) trivial (wk_refl _ _).1 (by rw [(wk_refl (fun _ => none) _).2]; simp) (by rfl) ⟨hr, by simp [BW, Tx.look, n1], trivial⟩ (by simp [UpdAll, keys])
theorem data1_die {F : SF} (nc : Nm) (s : List UInt8) (hs : s.length < 12) : OfDie 85 [] [.ptr nc 0 0] s F [nc] := by
 intro F' L r hF' hr hrd hFr
 have hcl : nc.l ≤ L := hrd nc (by simp)
 simp only [List.nil_append, List.cons_append]
 refine DCon.body (cxOk (L + 1)) rfl rfl (fn := Tryz.f85) (c := Tryz.f85.body.getD .skip) (by kernel_rfl) (by rfl) (by kernel_rfl) rfl  (by simp; omega) ?_
 intro F3 hF1 hF2
 have kr : F3 r = some (rdB s 0) := (hF1 r (by simp)).trans hFr
 have n1 : ∀ k, (r = (⟨L + 1, k⟩ : Nm)) = False := nm_out hr
 have n2 : ∀ k, ((⟨L + 1, k⟩ : Nm) = r) = False := nm_out' hr
 have h32 : r.l ≤ L + 1 := by omega
 simp only [Tryz.f85, cx, go_sem, meths]
 by_cases h4 : s.length < 4
 ·refine CallVD.same rfl (number_die r h32 s 0 4 4 rfl (by omega) (by omega) (by omega) (by omega) (by omega) (by simp [rdB, kr, n1, Tx.look])) ?_
  exact .dead (ns := [r]) (by simpa using hr) (by simp [UpdAll, updH, setH, n1, n2])
 refine CallVD.live (CallVC.same (number_ok r h32 s 0 4 4 rfl (by omega) (by omega) (by omega) (by omega) (by simp [rdB, kr, n1])) ?_)
 simp only [rdB, n1, go_sem]
 by_cases h6 : s.length < 6
 ·refine CallVD.same rfl (number_die r h32 s 4 2 2 rfl (by omega) (by omega) (by omega) (by omega) (by omega) (by simp [rdB, n1, Tx.look])) ?_
  exact .dead (ns := [r]) (by simpa using hr) (by simp [UpdAll, updH, setH, n1, n2])
 refine CallVD.live (CallVC.same (number_ok r h32 s 4 2 2 rfl (by omega) (by omega) (by omega) (by omega) (by simp [rdB, n1])) ?_)
 simp only [rdB, n1, go_sem]
 by_cases h8 : s.length < 8
 ·refine CallVD.same rfl (number_die r h32 s 6 2 2 rfl (by omega) (by omega) (by omega) (by omega) (by omega) (by simp [rdB, n1, Tx.look])) ?_
  exact .dead (ns := [r]) (by simpa using hr) (by simp [UpdAll, updH, setH, n1, n2])
 refine CallVD.live (CallVC.same (number_ok r h32 s 6 2 2 rfl (by omega) (by omega) (by omega) (by omega) (by simp [rdB, n1])) ?_)
 simp only [rdB, n1, go_sem]
 refine CallVD.same rfl (number_die r h32 s 8 4 4 rfl (by omega) (by omega) (by omega) (by omega) (by omega) (by simp [rdB, n1, Tx.look])) ?_
 exact .dead (ns := [r]) (by simpa using hr) (by simp [UpdAll, updH, setH, n1, n2])
def initK (s : List UInt8) : List PV :=
 [.int .i64 (getB (s.take 4)), .int .i64 (getB ((s.drop 4).take 4)), .int .i64 (getB ((s.drop 8).take 2)), .int .i64 (getB ((s.drop 10).take 2)), .int .i64 (getB ((s.drop 12).take 4)), .str (s.drop 16)]
theorem init1_ok {F : SF} (s : List UInt8) (hs : 16 ≤ s.length) (hl : s.length ≤ 1000000) : OfOk 88 [] [] s (.agg (initK s)) s.length F [] := by
 intro F' L r nx hF' hr hrd hFr
 simp only [List.nil_append, List.cons_append]
 refine bdy Tryz.f88 (hrd := (by simp; omega)) ?_
 intro F3 hF1 hF2
 have kr : F3 r = some (rdB s 0) := (hF1 r (by simp)).trans hFr
 have n1 : ∀ k, (r = (⟨L + 1, k⟩ : Nm)) = False := nm_out hr
 have n2 : ∀ k, ((⟨L + 1, k⟩ : Nm) = r) = False := nm_out' hr
 have h32 : r.l ≤ L + 1 := by omega
 simp only [Tryz.f88, cx, rdB, go_sem, meths]
 refine CallVC.same (number_ok r h32 s 0 4 4 rfl (by omega) (by omega) (by omega) (by omega) (by simp [rdB, kr, n1])) ?_
 simp only [rdB, n1, go_sem]
 refine CallVC.same (number_ok r h32 s 4 4 4 rfl (by omega) (by omega) (by omega) (by omega) (by simp [rdB, n1])) ?_
 simp only [rdB, n1, go_sem]
 refine CallVC.same (number_ok r h32 s 8 2 2 rfl (by omega) (by omega) (by omega) (by omega) (by simp [rdB, n1])) ?_
 simp only [rdB, n1, go_sem]
 refine CallVC.same (number_ok r h32 s 10 2 2 rfl (by omega) (by omega) (by omega) (by omega) (by simp [rdB, n1])) ?_
 simp only [rdB, n1, go_sem]
 refine CallVC.same (number_ok r h32 s 12 4 4 rfl (by omega) (by omega) (by omega) (by omega) (by simp [rdB, n1])) ?_
 simp only [rdB, n1, go_sem]
 refine CallVC.same (rest_ok r h32 s 16 (by omega) hl (by simp [rdB, n1])) ?_
 simp only [rdB, n1, n2, go_sem]
 repeat refine sd1 ?_
 exact PostF.of (p := True) (v0 := .agg (initK s)) (.inr rfl) (by simp only [initK, resVal, resVals, resVal1, one, List.drop_zero, go_sem]) trivial (wk_refl _ _).1 (by rw [(wk_refl (fun _ => none) _).2]; simp) (by rfl) ⟨hr, by simp [BW, Tx.look, n1], trivial⟩ (by simp [UpdAll, keys])
theorem init1_die {F : SF} (s : List UInt8) (hs : s.length < 16) : OfDie 88 [] [] s F [] := by
 intro F' L r hF' hr hrd hFr
 simp only [List.nil_append, List.cons_append]
 refine DCon.body (cxOk (L + 1)) rfl rfl (fn := Tryz.f88) (c := Tryz.f88.body.getD .skip) (by kernel_rfl) (by rfl) (by kernel_rfl) rfl  (by simp; omega) ?_
 intro F3 hF1 hF2
 have kr : F3 r = some (rdB s 0) := (hF1 r (by simp)).trans hFr
 have n1 : ∀ k, (r = (⟨L + 1, k⟩ : Nm)) = False := nm_out hr
 have n2 : ∀ k, ((⟨L + 1, k⟩ : Nm) = r) = False := nm_out' hr
 have h32 : r.l ≤ L + 1 := by omega
 simp only [Tryz.f88, cx, go_sem, meths]
 by_cases g0 : s.length < 4
 ·refine CallVD.same rfl (number_die r h32 s 0 4 4 rfl (by omega) (by omega) (by omega) (by omega) (by omega) (by simp [rdB, kr, n1, Tx.look])) ?_
  exact .dead (ns := [r]) (by simpa using hr) (by simp [UpdAll, updH, setH, n1, n2])
 refine CallVD.live (CallVC.same (number_ok r h32 s 0 4 4 rfl (by omega) (by omega) (by omega) (by omega) (by simp [rdB, kr, n1])) ?_)
 simp only [rdB, n1, go_sem]
 by_cases g4 : s.length < 8
 ·refine CallVD.same rfl (number_die r h32 s 4 4 4 rfl (by omega) (by omega) (by omega) (by omega) (by omega) (by simp [rdB, n1, Tx.look])) ?_
  exact .dead (ns := [r]) (by simpa using hr) (by simp [UpdAll, updH, setH, n1, n2])
 refine CallVD.live (CallVC.same (number_ok r h32 s 4 4 4 rfl (by omega) (by omega) (by omega) (by omega) (by simp [rdB, n1])) ?_)
 simp only [rdB, n1, go_sem]
 by_cases g8 : s.length < 10
 ·refine CallVD.same rfl (number_die r h32 s 8 2 2 rfl (by omega) (by omega) (by omega) (by omega) (by omega) (by simp [rdB, n1, Tx.look])) ?_
  exact .dead (ns := [r]) (by simpa using hr) (by simp [UpdAll, updH, setH, n1, n2])
 refine CallVD.live (CallVC.same (number_ok r h32 s 8 2 2 rfl (by omega) (by omega) (by omega) (by omega) (by simp [rdB, n1])) ?_)
 simp only [rdB, n1, go_sem]
 by_cases g10 : s.length < 12
 ·refine CallVD.same rfl (number_die r h32 s 10 2 2 rfl (by omega) (by omega) (by omega) (by omega) (by omega) (by simp [rdB, n1, Tx.look])) ?_
  exact .dead (ns := [r]) (by simpa using hr) (by simp [UpdAll, updH, setH, n1, n2])
 refine CallVD.live (CallVC.same (number_ok r h32 s 10 2 2 rfl (by omega) (by omega) (by omega) (by omega) (by simp [rdB, n1])) ?_)
 simp only [rdB, n1, go_sem]
 by_cases g12 : s.length < 16
 ·refine CallVD.same rfl (number_die r h32 s 12 4 4 rfl (by omega) (by omega) (by omega) (by omega) (by omega) (by simp [rdB, n1, Tx.look])) ?_
  exact .dead (ns := [r]) (by simpa using hr) (by simp [UpdAll, updH, setH, n1, n2])
 omega
def sackG (s : List UInt8) : Nat := getB ((s.drop 8).take 2)
def sackD (s : List UInt8) : Nat := getB ((s.drop 10).take 2)
def sackK (s : List UInt8) : List PV :=
 [.int .i64 (getB (s.take 4)), .int .i64 (getB ((s.drop 4).take 4)), .fs 2 ((pairsG s 12 (sackG s)).map eP), .fs 1 ((numsG s (12 + 4 * sackG s) 4 (sackD s)).map eN)]
theorem getB2 (s : List UInt8) (p : Nat) : getB ((s.drop p).take 2) < 65536 := by
 have := getB_lt ((s.drop p).take 2)
 have h2 : ((s.drop p).take 2).length ≤ 2 := by simp; omega
 have h3 := Nat.pow_le_pow_right (n := 256) (by omega) h2
 omega
theorem sack1_ok {F : SF} (s : List UInt8) (hs : 12 + 4 * sackG s + 4 * sackD s ≤ s.length) (hl : s.length ≤ 1000000) : OfOk 90 [] [] s (.agg (sackK s)) (12 + 4 * sackG s + 4 * sackD s) F [] := by
 intro F' L r nx hF' hr hrd hFr
 simp only [List.nil_append, List.cons_append]
 refine bdy Tryz.f90 (hrd := (by simp; omega)) ?_
 intro F3 hF1 hF2
 have kr : F3 r = some (rdB s 0) := (hF1 r (by simp)).trans hFr
 have n1 : ∀ k, (r = (⟨L + 1, k⟩ : Nm)) = False := nm_out hr
 have n2 : ∀ k, ((⟨L + 1, k⟩ : Nm) = r) = False := nm_out' hr
 have h32 : r.l ≤ L + 1 := by omega
 simp only [Tryz.f90, cx, rdB, go_sem, meths]
 refine CallVC.same (number_ok r h32 s 0 4 4 rfl (by omega) (by omega) (by omega) (by omega) (by simp [rdB, kr, n1])) ?_
 simp only [rdB, n1, go_sem]
 refine CallVC.same (number_ok r h32 s 4 4 4 rfl (by omega) (by omega) (by omega) (by omega) (by simp [rdB, n1])) ?_
 simp only [rdB, n1, n2, go_sem]
 refine CallVC.same (number_ok r h32 s 8 2 2 rfl (by omega) (by omega) (by omega) (by omega) (by simp [rdB, n1])) ?_
 simp only [rdB, n1, go_sem]
 refine CallVC.same (number_ok r h32 s 10 2 2 rfl (by omega) (by omega) (by omega) (by omega) (by simp [rdB, n1])) ?_
 simp only [rdB, n1, go_sem]
 have e8 : getB ((s.drop 8).take 2) = sackG s := rfl
 have e10 : getB ((s.drop 10).take 2) = sackD s := rfl
 rw [e8, e10]
 refine CallVC.same (pairs_ok r h32 s 12 (sackG s) _ rfl (by omega) hl (by simp [rdB, n1])) ?_
 simp only [rdB, n1, n2, go_sem]
 repeat refine sd1 ?_
 refine CallVC.same (numbers_ok r h32 s (12 + 4 * sackG s) 4 (sackD s) (by omega) (by omega) (by omega) hl (by simp [rdB, n1])) ?_
 simp only [rdB, n1, n2, go_sem]
 repeat refine sd1 ?_
 exact PostF.of (p := True) (v0 := .agg (sackK s)) (.inr rfl) (by simp only [sackK, resVal, resVals, resVal1, one, List.drop_zero, go_sem]) trivial (wk_refl _ _).1 (by rw [(wk_refl (fun _ => none) _).2]; simp) (by rfl) ⟨hr, by simp [BW, Tx.look, n1], trivial⟩ (by simp [UpdAll, keys])
theorem sack1_die {F : SF} (s : List UInt8) (hs : s.length < 12 + 4 * sackG s + 4 * sackD s ∨ s.length < 12) (hl : s.length ≤ 1000000) : OfDie 90 [] [] s F [] := by
 intro F' L r hF' hr hrd hFr
 simp only [List.nil_append, List.cons_append]
 refine DCon.body (cxOk (L + 1)) rfl rfl (fn := Tryz.f90) (c := Tryz.f90.body.getD .skip) (by kernel_rfl) (by rfl) (by kernel_rfl) rfl  (by simp; omega) ?_
 intro F3 hF1 hF2
 have kr : F3 r = some (rdB s 0) := (hF1 r (by simp)).trans hFr
 have n1 : ∀ k, (r = (⟨L + 1, k⟩ : Nm)) = False := nm_out hr
 have n2 : ∀ k, ((⟨L + 1, k⟩ : Nm) = r) = False := nm_out' hr
 have h32 : r.l ≤ L + 1 := by omega
 simp only [Tryz.f90, cx, go_sem, meths]
 by_cases g0 : s.length < 4
 ·refine CallVD.same rfl (number_die r h32 s 0 4 4 rfl (by omega) (by omega) (by omega) (by omega) (by omega) (by simp [rdB, kr, n1, Tx.look])) ?_
  exact .dead (ns := [r]) (by simpa using hr) (by simp [UpdAll, updH, setH, n1, n2])
 refine CallVD.live (CallVC.same (number_ok r h32 s 0 4 4 rfl (by omega) (by omega) (by omega) (by omega) (by simp [rdB, kr, n1])) ?_)
 simp only [rdB, n1, go_sem]
 by_cases g4 : s.length < 8
 ·refine CallVD.same rfl (number_die r h32 s 4 4 4 rfl (by omega) (by omega) (by omega) (by omega) (by omega) (by simp [rdB, n1, Tx.look])) ?_
  exact .dead (ns := [r]) (by simpa using hr) (by simp [UpdAll, updH, setH, n1, n2])
 refine CallVD.live (CallVC.same (number_ok r h32 s 4 4 4 rfl (by omega) (by omega) (by omega) (by omega) (by simp [rdB, n1])) ?_)
 simp only [rdB, n1, n2, go_sem]
 by_cases g8 : s.length < 10
 ·refine CallVD.same rfl (number_die r h32 s 8 2 2 rfl (by omega) (by omega) (by omega) (by omega) (by omega) (by simp [rdB, n1, Tx.look])) ?_
  exact .dead (ns := [r]) (by simpa using hr) (by simp [UpdAll, updH, setH, n1, n2])
 refine CallVD.live (CallVC.same (number_ok r h32 s 8 2 2 rfl (by omega) (by omega) (by omega) (by omega) (by simp [rdB, n1])) ?_)
 simp only [rdB, n1, go_sem]
 by_cases g10 : s.length < 12
 ·refine CallVD.same rfl (number_die r h32 s 10 2 2 rfl (by omega) (by omega) (by omega) (by omega) (by omega) (by simp [rdB, n1, Tx.look])) ?_
  exact .dead (ns := [r]) (by simpa using hr) (by simp [UpdAll, updH, setH, n1, n2])
 refine CallVD.live (CallVC.same (number_ok r h32 s 10 2 2 rfl (by omega) (by omega) (by omega) (by omega) (by simp [rdB, n1])) ?_)
 simp only [rdB, n1, go_sem]
 have e8 : getB ((s.drop 8).take 2) = sackG s := rfl
 have e10 : getB ((s.drop 10).take 2) = sackD s := rfl
 have b8 := getB2 s 8
 have b10 := getB2 s 10
 rw [e8] at b8
 rw [e10] at b10
 rw [e8, e10]
 by_cases hg : s.length < 12 + 4 * sackG s
 ·refine CallVD.same rfl (pairs_die r h32 s 12 (sackG s) _ rfl (by omega) (by omega) (by omega) hl (by simp [rdB, n1, Tx.look])) ?_
  exact .dead (ns := [r]) (by simpa using hr) (by simp [UpdAll, updH, setH, n1, n2])
 refine CallVD.live (CallVC.same (pairs_ok r h32 s 12 (sackG s) _ rfl (by omega) hl (by simp [rdB, n1])) ?_)
 simp only [rdB, n1, n2, go_sem]
 repeat refine sd1 ?_
 refine CallVD.same rfl (numbers_die r h32 s (12 + 4 * sackG s) 4 (sackD s) (by omega) (by omega) (by omega) (by omega) (by omega) hl (by simp [rdB, n1, Tx.look])) ?_
 exact .dead (ns := [r]) (by simpa using hr) (by simp [UpdAll, updH, setH, n1, n2])
def resetN (s : List UInt8) : Nat := (s.length - 9) / 2
def askK (s : List UInt8) : List PV :=
 [.int .i64 1, .int .i64 (getB ((s.drop 1).take 4)), .int .i64 (getB ((s.drop 5).take 4)), .int .i64 0, .fs 1 ((numsG s 9 2 (resetN s)).map eN)]
theorem reset1_ok {F : SF} {L nx : Nat} (s : List UInt8) (hs : 9 ≤ s.length) (hl : s.length ≤ 1000000) (r : Nm) (hr : r.l ≤ L) (hFr : F r = some (rdB s 1)) : Con Tryz.prog 95 [.ptr r 0 0] F L nx nx (.agg (askK s)) [(r, rdB s (9 + 2 * resetN s))] [r] := by
 refine bdy Tryz.f95 (hrd := (by simp; omega)) ?_
 intro F3 hF1 hF2
 have kr : F3 r = some (rdB s 1) := (hF1 r (by simp)).trans hFr
 have n1 : ∀ k, (r = (⟨L + 1, k⟩ : Nm)) = False := nm_out hr
 have n2 : ∀ k, ((⟨L + 1, k⟩ : Nm) = r) = False := nm_out' hr
 have h32 : r.l ≤ L + 1 := by omega
 simp only [Tryz.f95, cx, rdB, go_sem, meths]
 refine CallVC.same (number_ok r h32 s 1 4 4 rfl (by omega) (by omega) (by omega) (by omega) (by simp [rdB, kr, n1])) ?_
 simp only [rdB, n1, go_sem]
 refine CallVC.same (number_ok r h32 s 5 4 4 rfl (by omega) (by omega) (by omega) (by omega) (by simp [rdB, n1])) ?_
 simp only [rdB, n1, n2, kr, Nat.add_zero, go_sem]
 have e1 : ((s.length : Int) - ((9 : Nat) : Int)).tdiv 2 = (resetN s : Int) := by
  have : ((s.length : Int) - ((9 : Nat) : Int)) = ((s.length - 9 : Nat) : Int) := by omega
  rw [this, Int.tdiv_eq_ediv_of_nonneg (by omega)]
  simp [resetN]
 have hb : 9 + 2 * resetN s ≤ s.length := by unfold resetN; omega
 simp only [e1]
 have hb2 : resetN s ≤ s.length := by omega
 refine ⟨by kernel_rfl, ⟨by omega, by omega⟩, ⟨by omega, by omega, by omega⟩, ?_⟩
 refine CallVC.same (numbers_ok r h32 s 9 2 (resetN s) (by omega) (by omega) (by omega) hl (by simp [rdB, n1])) ?_
 simp only [rdB, n1, n2, go_sem]
 refine ⟨okDyn_num (fun x => if x = r then 1 else x.i % 10000 + 100) (by simp only [numF, List.map, n2, if_true, if_false]; kernel_rfl), ?_⟩
 exact PostF.of (p := True) (v0 := .agg (askK s)) (.inr rfl) (by simp only [askK, resVal, resVals, resVal1, one, go_sem]) trivial (wk_refl _ _).1 (by rw [(wk_refl (fun _ => none) _).2]; simp) (by rfl) ⟨hr, by simp [BW, Tx.look, n1], trivial⟩ (by simp [UpdAll, keys])
theorem reset1_die {F : SF} {L : Nat} (s : List UInt8) (h1 : 1 ≤ s.length) (hs : s.length < 9) (r : Nm) (hr : r.l ≤ L) (hFr : F r = some (rdB s 1)) : DCon Tryz.prog chM 95 [.ptr r 0 0] F L [(r, .dead)] [r] := by
 refine DCon.body (cxOk (L + 1)) rfl rfl (fn := Tryz.f95) (c := Tryz.f95.body.getD .skip) (by kernel_rfl) (by rfl) (by kernel_rfl) rfl  (by simp; omega) ?_
 intro F3 hF1 hF2
 have kr : F3 r = some (rdB s 1) := (hF1 r (by simp)).trans hFr
 have n1 : ∀ k, (r = (⟨L + 1, k⟩ : Nm)) = False := nm_out hr
 have n2 : ∀ k, ((⟨L + 1, k⟩ : Nm) = r) = False := nm_out' hr
 have h32 : r.l ≤ L + 1 := by omega
 simp only [Tryz.f95, cx, go_sem, meths]
 by_cases g1 : s.length < 5
 ·refine CallVD.same rfl (number_die r h32 s 1 4 4 rfl (by omega) (by omega) (by omega) (by omega) (by omega) (by simp [rdB, kr, n1, Tx.look])) ?_
  exact .dead (ns := [r]) (by simpa using hr) (by simp [UpdAll, updH, setH, n1, n2])
 refine CallVD.live (CallVC.same (number_ok r h32 s 1 4 4 rfl (by omega) (by omega) (by omega) (by omega) (by simp [rdB, kr, n1])) ?_)
 simp only [rdB, n1, go_sem]
 by_cases g5 : s.length < 9
 ·refine CallVD.same rfl (number_die r h32 s 5 4 4 rfl (by omega) (by omega) (by omega) (by omega) (by omega) (by simp [rdB, n1, Tx.look])) ?_
  exact .dead (ns := [r]) (by simpa using hr) (by simp [UpdAll, updH, setH, n1, n2])
 omega
def resetK (s : List UInt8) : List PV :=
 if getB (s.take 1) = 1 then askK s else [.int .i64 2, .int .i64 (getB ((s.drop 1).take 4)), .int .i64 0, .int .i64 (getB ((s.drop 5).take 1)), .fs 1 []]
def resetP (s : List UInt8) : Nat := if getB (s.take 1) = 1 then 9 + 2 * resetN s else 6
def resetMin (s : List UInt8) : Nat := if getB (s.take 1) = 1 then 9 else 6
theorem reset2_ok {F : SF} (na : Nm) (ea : TypeId) (oa pa : Bool) (hc : F na = some (.rows ea 1 oa pa [[.fn (.func 95) [] []]])) (s : List UInt8) (hs : resetMin s ≤ s.length) (hl : s.length ≤ 1000000) : OfOk 97 [] [.ptr na 0 0] s (.agg (resetK s)) (resetP s) F [na] := by
 intro F' L r nx hF' hr hrd hFr
 have hcl : na.l ≤ L := hrd na (by simp)
 have hm1 : 1 ≤ s.length := by unfold resetMin at hs; split at hs <;> omega
 have hne : na ≠ r := by
  rintro rfl
  rw [hF' na (by simp), hc] at hFr
  simp [rdB] at hFr
 simp only [List.nil_append, List.cons_append]
 refine bdy Tryz.f97 (hrd := (by simp; omega)) ?_
 intro F3 hF1 hF2
 have kr : F3 r = some (rdB s 0) := (hF1 r (by simp)).trans hFr
 have kc : F3 na = some (.rows ea 1 oa pa [[.fn (.func 95) [] []]]) := (hF1 na (by simp)).trans ((hF' na (by simp)).trans hc)
 have n1 : ∀ k, (r = (⟨L + 1, k⟩ : Nm)) = False := nm_out hr
 have n2 : ∀ k, ((⟨L + 1, k⟩ : Nm) = r) = False := nm_out' hr
 have c1 : ∀ k, (na = (⟨L + 1, k⟩ : Nm)) = False := nm_out hcl
 have e1 : (na = r) = False := eq_false hne
 have h32 : r.l ≤ L + 1 := by omega
 simp only [Tryz.f97, cx, rdB, go_sem, meths]
 refine CallVC.same (number_ok r h32 s 0 1 1 rfl (by omega) (by omega) (by omega) hl (by simp [rdB, kr, n1])) ?_
 by_cases h1 : getB (s.take 1) = 1
 ·have f1 : (((getB (s.take 1) : Nat) : Int) == 1) = true := by simp [h1]
  simp only [resetMin, if_pos h1] at hs
  simp only [resetK, resetP, if_pos h1]
  simp only [f1, kc, c1, e1, List.drop_zero, rdB, n1, go_sem]
  repeat refine sd1 ?_
  refine CallVC.same (reset1_ok s hs hl r h32 (by simp [rdB, n1])) ?_
  simp only [askK, List.drop_zero, rdB, n1, n2, go_sem]
  repeat refine sd1 ?_
  exact PostF.of (p := True) (v0 := .agg [.int .i64 1, .int .i64 (getB ((s.drop 1).take 4)), .int .i64 (getB ((s.drop 5).take 4)), .int .i64 0, .fs 1 ((numsG s 9 2 (resetN s)).map eN)]) (.inr rfl) (by simp only [resVal, resVals, resVal1, one, go_sem]) trivial (wk_refl _ _).1 (by rw [(wk_refl (fun _ => none) _).2]; simp) (by rfl) ⟨hr, by simp [BW, Tx.look, n1], trivial⟩ (by simp [UpdAll, keys])
 ·have f1 : (((getB (s.take 1) : Nat) : Int) == 1) = false := eqF (by omega)
  simp only [resetMin, if_neg h1] at hs
  simp only [resetK, resetP, if_neg h1]
  simp only [f1, List.drop_zero, rdB, n1, go_sem]
  refine CallVC.same (number_ok r h32 s 1 4 4 rfl (by omega) (by omega) (by omega) hl (by simp [rdB, n1])) ?_
  simp only [rdB, n1, go_sem]
  refine CallVC.same (number_ok r h32 s 5 1 1 rfl (by omega) (by omega) (by omega) hl (by simp [rdB, n1])) ?_
  simp only [List.drop_zero, rdB, n1, n2, go_sem]
  repeat refine sd1 ?_
  exact PostF.of (p := True) (v0 := .agg [.int .i64 2, .int .i64 (getB ((s.drop 1).take 4)), .int .i64 0, .int .i64 (getB ((s.drop 5).take 1)), .nilS]) (.inr rfl) (by simp only [resVal, resVals, resVal1, one, go_sem]) trivial (by simp [Wk, WkL]) (by simp [wkN, wkNL]) (by rfl) ⟨hr, by simp [BW, Tx.look, n1], trivial⟩ (by simp [UpdAll, keys])
theorem reset2_die {F : SF} (na : Nm) (ea : TypeId) (oa pa : Bool) (hc : F na = some (.rows ea 1 oa pa [[.fn (.func 95) [] []]])) (s : List UInt8) (hs : s.length < resetMin s) (hl : s.length ≤ 1000000) : OfDie 97 [] [.ptr na 0 0] s F [na] := by
 intro F' L r hF' hr hrd hFr
 have hcl : na.l ≤ L := hrd na (by simp)
 have hne : na ≠ r := by
  rintro rfl
  rw [hF' na (by simp), hc] at hFr
  simp [rdB] at hFr
 simp only [List.nil_append, List.cons_append]
 refine DCon.body (cxOk (L + 1)) rfl rfl (fn := Tryz.f97) (c := Tryz.f97.body.getD .skip) (by kernel_rfl) (by rfl) (by kernel_rfl) rfl  (by simp; omega) ?_
 intro F3 hF1 hF2
 have kr : F3 r = some (rdB s 0) := (hF1 r (by simp)).trans hFr
 have kc : F3 na = some (.rows ea 1 oa pa [[.fn (.func 95) [] []]]) := (hF1 na (by simp)).trans ((hF' na (by simp)).trans hc)
 have n1 : ∀ k, (r = (⟨L + 1, k⟩ : Nm)) = False := nm_out hr
 have n2 : ∀ k, ((⟨L + 1, k⟩ : Nm) = r) = False := nm_out' hr
 have c1 : ∀ k, (na = (⟨L + 1, k⟩ : Nm)) = False := nm_out hcl
 have e1 : (na = r) = False := eq_false hne
 have h32 : r.l ≤ L + 1 := by omega
 simp only [Tryz.f97, cx, go_sem, meths]
 by_cases h0 : s.length < 1
 ·refine CallVD.same rfl (number_die r h32 s 0 1 1 rfl (by omega) (by omega) (by omega) (by omega) (by omega) (by simp [rdB, kr, n1, Tx.look])) ?_
  exact .dead (ns := [r]) (by simpa using hr) (by simp [UpdAll, updH, setH, n1, n2])
 refine CallVD.live (CallVC.same (number_ok r h32 s 0 1 1 rfl (by omega) (by omega) (by omega) hl (by simp [rdB, kr, n1])) ?_)
 by_cases h1 : getB (s.take 1) = 1
 ·have f1 : (((getB (s.take 1) : Nat) : Int) == 1) = true := by simp [h1]
  simp only [resetMin, if_pos h1] at hs
  simp only [f1, kc, c1, e1, List.drop_zero, rdB, n1, go_sem]
  repeat refine sd1 ?_
  refine CallVD.same rfl (reset1_die s (by omega) hs r h32 (by simp [rdB, n1, Tx.look])) ?_
  exact .dead (ns := [r]) (by simpa using hr) (by simp [UpdAll, updH, setH, n1, n2])
 ·have f1 : (((getB (s.take 1) : Nat) : Int) == 1) = false := eqF (by omega)
  simp only [resetMin, if_neg h1] at hs
  simp only [f1, List.drop_zero, rdB, n1, go_sem]
  by_cases h5 : s.length < 5
  ·refine CallVD.same rfl (number_die r h32 s 1 4 4 rfl (by omega) (by omega) (by omega) (by omega) (by omega) (by simp [rdB, n1, Tx.look])) ?_
   exact .dead (ns := [r]) (by simpa using hr) (by simp [UpdAll, updH, setH, n1, n2])
  refine CallVD.live (CallVC.same (number_ok r h32 s 1 4 4 rfl (by omega) (by omega) (by omega) hl (by simp [rdB, n1])) ?_)
  simp only [rdB, n1, go_sem]
  refine CallVD.same rfl (number_die r h32 s 5 1 1 rfl (by omega) (by omega) (by omega) (by omega) (by omega) (by simp [rdB, n1, Tx.look])) ?_
  exact .dead (ns := [r]) (by simpa using hr) (by simp [UpdAll, updH, setH, n1, n2])
theorem con_rds {P : Program} {f : FuncId} {args : List PV} {F : SF} {L nx top : Nat} {v : PV} {upd : List (Nm × SBlk)} {rd rd' : List Nm} (h : Con P f args F L nx top v upd rd) (hs : ∀ n ∈ rd, n ∈ rd') : Con P f args F L nx top v upd rd' :=
 ⟨h.1, fun F2 h2 => h.2 F2 fun n hn => h2 n (hs n hn)⟩
def datG (c : Ckx) : Dat := ⟨getB (c.bd.take 4), getB ((c.bd.drop 4).take 2), getB ((c.bd.drop 6).take 2), getB ((c.bd.drop 8).take 4), decide (Sx.ibits .and .i64 c.fl 2 > 0), decide (Sx.ibits .and .i64 c.fl 1 > 0), decide (Sx.ibits .and .i64 c.fl 4 > 0), c.bd.drop 12⟩
def datOk (c : Ckx) : Bool := decide (12 ≤ c.bd.length) && ((datG c).ok && (decide (flD (datG c).la (datG c).fi (datG c).lo 3 = c.fl) && decide (dataB (datG c) = c.bd)))
def zDat : Dat := ⟨0, 0, 0, 0, false, false, false, []⟩
def getDatV (c : Ckx) : PV := if c.kd = 0 then (if datOk c then .tup [.agg (datG c).row, .int .i64 0] else .tup [.agg zDat.row, .int .i64 5]) else .tup [.agg zDat.row, .int .i64 2]
theorem getDataT_ok {F : SF} {L nx : Nat} (c : Ckx) (hl : c.bd.length ≤ 1000000) : Con Tryz.prog 43 [.agg c.row] F L nx nx (getDatV c) [] [] := by
 have hcall : ∀ (F : SF) (L nx : Nat) (nc : Nm) (oc : Bool), nc.l ≤ L → F nc = some (.rows 34 3 oc true [c.row]) → Con Tryz.prog 84 [.agg c.row, .fn (.func 85) [] [.ptr nc 0 0], .fn (.func 21) [] [], .fs 1 ([0].map eI)] F L nx nx (getDatV c) [] [nc] := by
  intro F L nx nc oc hn hF
  obtain ⟨k, fl, s⟩ := c
  simp only [Ckx.row] at hF hl ⊢
  unfold getDatV
  by_cases hk : k = 0
  ·subst hk
   have hk1 : (([0] : List Int).any fun x => (0 : Int) == x) = true := rfl
   rw [if_pos rfl]
   have hP : PutOk 21 (datG ⟨0, fl, s⟩).row (if (datG ⟨0, fl, s⟩).ok then 0 else 0) (if (datG ⟨0, fl, s⟩).ok then flD (datG ⟨0, fl, s⟩).la (datG ⟨0, fl, s⟩).fi (datG ⟨0, fl, s⟩).lo 3 else 0) (if (datG ⟨0, fl, s⟩).ok then dataB (datG ⟨0, fl, s⟩) else []) (if (datG ⟨0, fl, s⟩).ok then 0 else 320) := by
    intro F L nx
    have h := putData_ok (F := F) (L := L) (nx := nx) (datG ⟨0, fl, s⟩)
    cases hb : (datG ⟨0, fl, s⟩).ok with
    | true => rw [hb] at h; simpa using h
    | false => rw [hb] at h; simpa using h
   by_cases h12 : 12 ≤ s.length
   ·have hO := data1_ok (F := F) nc 0 fl s s oc hF h12 hl
    rw [show datK fl s = (datG ⟨0, fl, s⟩).row from rfl] at hO
    cases hd : datOk ⟨0, fl, s⟩ with
    | true =>
     rw [if_pos rfl]
     unfold datOk at hd
     simp only [Bool.and_eq_true, decide_eq_true_eq] at hd
     obtain ⟨_, q1, q2, q3⟩ := hd
     rw [q1] at hP
     simp only [if_true, q2, q3] at hP
     exact getData_ok s hl 0 fl 85 21 [] [.ptr nc 0 0] [0] hk1 (by simp) _ rfl rfl [nc] (by simpa using hn) hO hP
    | false =>
     rw [if_neg (by simp)]
     refine getData_bad s hl 0 fl 85 21 [] [.ptr nc 0 0] [0] hk1 (by simp) [nc] (by simpa using hn) (.inr (.inr ⟨_, _, _, _, _, rfl, rfl, hO, hP, ?_⟩))
     rintro ⟨r1, r2, r3, r4⟩
     cases hb : (datG ⟨0, fl, s⟩).ok with
     | false => rw [hb] at r1; simp at r1
     | true =>
      rw [hb] at r3 r4
      simp only [if_true] at r3 r4
      unfold datOk at hd
      simp only [hb, r3, r4, h12, decide_true, Bool.and_true] at hd
      cases hd
   ·have hd : datOk ⟨0, fl, s⟩ = false := by unfold datOk; rw [decide_eq_false (show ¬ 12 ≤ (Ckx.mk 0 fl s).bd.length from h12)]; rfl
    rw [hd, if_neg (by simp)]
    exact getData_bad s hl 0 fl 85 21 [] [.ptr nc 0 0] [0] hk1 (by simp) [nc] (by simpa using hn) (.inl (data1_die nc s (by omega)))
  ·rw [if_neg hk]
   exact con_rds (getData_kind s k fl 85 21 [] [.ptr nc 0 0] [0] (by simpa using hk) (by simp)) (by simp)
 have hv : ∃ d e, getDatV c = .tup [.agg (Dat.row d), .int .i64 e] := by
  unfold getDatV
  split
  ·split
   ·exact ⟨_, _, rfl⟩
   ·exact ⟨_, _, rfl⟩
  ·exact ⟨_, _, rfl⟩
 obtain ⟨d, e, hv⟩ := hv
 rw [hv] at hcall ⊢
 simp only [Ckx.row, Dat.row] at hcall ⊢
 refine bdy Tryz.f43 ?_
 intro F3 hF1 hF2
 simp only [Tryz.f43, cx, go_sem, meths]
 repeat refine sd2 ?_
 refine CallVC.gen (args2 := [.agg [.int .i64 c.kd, .int .i64 c.fl, .str c.bd], .fn (.func 85) [] [.ptr ⟨L + 1, 0⟩ 0 0], .fn (.func 21) [] [], .fs 1 ([0].map eI)]) (by simp [WkL, Wk, eI]) (hcall _ _ _ ⟨L + 1, 0⟩ true (by simp) (by simp [wkNL, wkN, unown, SF.upd, SF.set])) ?_
 simp only [wkNL, wkN, unown, go_sem]
 repeat refine sd2 ?_
 exact PostF.same (p := True) (.inr rfl) (by simp only [resVal, resVals, resVal1, one, go_sem]) trivial (by simp [Tx.nf, nfl]) (by simp [UpdAll])
def iniG (c : Ckx) : Ini := ⟨getB (c.bd.take 4), getB ((c.bd.drop 4).take 4), getB ((c.bd.drop 8).take 2), getB ((c.bd.drop 10).take 2), getB ((c.bd.drop 12).take 4), c.bd.drop 16⟩
def iniOk (c : Ckx) : Bool := decide (16 ≤ c.bd.length) && ((iniG c).ok && (decide (iniK (iniG c).ck = c.kd) && (decide ((0 : Int) = c.fl) && decide ((iniG c).oct = c.bd))))
def zIni : Ini := ⟨0, 0, 0, 0, 0, []⟩
def getIniV (c : Ckx) : PV := if c.kd = 1 ∨ c.kd = 2 then (if iniOk c then .tup [.agg (iniG c).row, .int .i64 0] else .tup [.agg zIni.row, .int .i64 5]) else .tup [.agg zIni.row, .int .i64 2]
theorem getInitT_ok {F : SF} {L nx : Nat} (c : Ckx) (hl : c.bd.length ≤ 1000000) : Con Tryz.prog 44 [.agg c.row] F L nx nx (getIniV c) [] [] := by
 have hcall : ∀ (F : SF) (L nx : Nat), Con Tryz.prog 87 [.agg c.row, .fn (.func 88) [] [], .fn (.func 30) [] [], .fs 1 ([1, 2].map eI)] F L nx nx (getIniV c) [] [] := by
  intro F L nx
  obtain ⟨k, fl, s⟩ := c
  simp only [Ckx.row] at hl ⊢
  unfold getIniV
  by_cases hk : k = 1 ∨ k = 2
  ·have hk1 : (([1, 2] : List Int).any fun x => k == x) = true := by simpa using hk
   rw [if_pos hk]
   obtain ⟨d, hdd⟩ : ∃ d, d = iniG ⟨k, fl, s⟩ := ⟨_, rfl⟩
   rw [← hdd]
   have hP : PutOk 30 d.row (if d.ok then iniK d.ck else 0) 0 (if d.ok then d.oct else []) (if d.ok then 0 else 320) := by
    intro F L nx
    have h := putInit_ok (F := F) (L := L) (nx := nx) d
    cases hb : d.ok with
    | true => rw [hb] at h; simpa using h
    | false => rw [hb] at h; simpa using h
   by_cases h12 : 16 ≤ s.length
   ·have hO := init1_ok (F := F) s h12 hl
    rw [show initK s = d.row by rw [hdd]; rfl] at hO
    cases hd : iniOk ⟨k, fl, s⟩ with
    | true =>
     rw [if_pos rfl]
     unfold iniOk at hd
     rw [← hdd] at hd
     simp only [Bool.and_eq_true, decide_eq_true_eq] at hd
     obtain ⟨_, q1, q2, q3, q4⟩ := hd
     rw [q1] at hP
     simp only [if_true, q2, q4] at hP
     subst q3
     exact getInit_ok s hl k 0 88 30 [] [] [1, 2] hk1 (by simp) _ rfl rfl [] (by simp) hO hP
    | false =>
     rw [if_neg (by simp)]
     refine getInit_bad s hl k fl 88 30 [] [] [1, 2] hk1 (by simp) [] (by simp) (.inr (.inr ⟨_, _, _, _, _, rfl, rfl, hO, hP, ?_⟩))
     rintro ⟨r1, r2, r3, r4⟩
     cases hb : d.ok with
     | false => rw [hb] at r1; simp at r1
     | true =>
      rw [hb] at r2 r4
      simp only [if_true] at r2 r4
      unfold iniOk at hd
      rw [← hdd] at hd
      simp only [hb, r2, r3, r4, h12, decide_true, Bool.and_true] at hd
      cases hd
   ·have hd : iniOk ⟨k, fl, s⟩ = false := by unfold iniOk; rw [decide_eq_false (show ¬ 16 ≤ (Ckx.mk k fl s).bd.length from h12)]; rfl
    rw [hd, if_neg (by simp)]
    exact getInit_bad s hl k fl 88 30 [] [] [1, 2] hk1 (by simp) [] (by simp) (.inl (init1_die s (by omega)))
  ·rw [if_neg hk]
   exact getInit_kind s k fl 88 30 [] [] [1, 2] (by simpa using hk) (by simp)
 have hv : ∃ d e, getIniV c = .tup [.agg (Ini.row d), .int .i64 e] := by
  unfold getIniV
  split
  ·split
   ·exact ⟨_, _, rfl⟩
   ·exact ⟨_, _, rfl⟩
  ·exact ⟨_, _, rfl⟩
 obtain ⟨d, e, hv⟩ := hv
 rw [hv] at hcall ⊢
 simp only [Ckx.row, Ini.row] at hcall ⊢
 refine bdy Tryz.f44 ?_
 intro F3 hF1 hF2
 simp only [Tryz.f44, cx, go_sem, meths]
 repeat refine sd2 ?_
 refine CallVC.gen (args2 := [.agg [.int .i64 c.kd, .int .i64 c.fl, .str c.bd], .fn (.func 88) [] [], .fn (.func 30) [] [], .fs 1 ([1, 2].map eI)]) (by simp [WkL, Wk, eI]) (hcall _ _ _) ?_
 simp only [wkNL, wkN, unown, go_sem]
 repeat refine sd2 ?_
 exact PostF.same (p := True) (.inr rfl) (by simp only [resVal, resVals, resVal1, one, go_sem]) trivial (by simp [Tx.nf, nfl]) (by simp [UpdAll])
end Go.Proofs.YtaacfnngodhecaaGreatDoor
end
