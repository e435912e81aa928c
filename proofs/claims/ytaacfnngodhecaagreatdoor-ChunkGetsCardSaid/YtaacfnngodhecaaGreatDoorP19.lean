/- Lemmas for the walk: WK48, WK29, WK30, WK31, WK32, WK33, WK34. -/
import Derived.Test.YtaacfnngodhecaaGreatDoorP18
import Derived.Test.YtaacfnngodhecaaGreatDoorP16
import Derived.Test.YtaacfnngodhecaaGreatDoorP13
import Derived.Test.YtaacfnngodhecaaGreatDoorP12
set_option linter.all false
section
namespace Go.Proofs.YtaacfnngodhecaaGreatDoor
open Go.Tx
set_option maxRecDepth 100000
set_option maxHeartbeats 16000000
theorem xRightSack_ok {F : SF} {L nx : Nat} (cum win : Int) (gs : List (Int × Int)) (ds : List Int) (hlen : gs.length ≤ 1000000) (hdl : ds.length ≤ 1000000) : Con Tryz.prog 27 [sackP cum win gs ds] F L nx nx (.bool (sackV cum win gs ds)) [] [] := by
 have off : (serB 32 cum = false ∨ serB 32 win = false ∨ ¬ gs.length ≤ 30 ∨ ¬ ds.length ≤ 20) → sackV cum win gs ds = false := by
  intro h; unfold sackV; rcases h with h | h | h | h <;> simp [h]
 refine bdy Tryz.f27 ?_
 intro F3 hF1 hF2
 simp only [Tryz.f27, cx, sackP, Nat.add_zero, go_sem, meths]
 refine CallVC.same (xWide_ok cum) ?_
 cases h1 : serB 32 cum with
 | false =>
  rw [off (.inl h1)]
  simp only [go_sem]
  exact .bool (.inr rfl) rfl rfl (by simp [UpdAll])
 | true =>
 simp only [go_sem]
 refine CallVC.same (xWide_ok win) ?_
 cases h2 : serB 32 win with
 | false =>
  rw [off (.inr (.inl h2))]
  simp only [go_sem]
  exact .bool (.inr rfl) rfl rfl (by simp [UpdAll])
 | true =>
 by_cases h3 : gs.length ≤ 30
 rotate_left
 ·have f3 : decide ((30 : Int) < (gs.length : Int)) = true := dT (by omega)
  rw [off (.inr (.inr (.inl h3)))]
  simp only [f3, List.length_map, go_sem]
  exact .bool (.inr rfl) rfl rfl (by simp [UpdAll])
 have f3 : decide ((30 : Int) < (gs.length : Int)) = false := dF (by omega)
 by_cases h4 : ds.length ≤ 20
 rotate_left
 ·have f4 : decide ((20 : Int) < (ds.length : Int)) = true := dT (by omega)
  rw [off (.inr (.inr (.inr h4)))]
  simp only [f3, f4, List.length_map, go_sem]
  exact .bool (.inr rfl) rfl rfl (by simp [UpdAll])
 have f4 : decide ((20 : Int) < (ds.length : Int)) = false := dF (by omega)
 have val : sackV cum win gs ds = ((List.range gs.length).all (okGp gs) && ds.all (serB 32)) := by unfold sackV; simp [h1, h2, h3, h4]
 rw [val]
 simp only [f3, f4, List.length_map, go_sem]
 refine loopK.intro _ _ (I := fun i : Nat => ⟨[none, some (.ptr ⟨L + 1, 0⟩ 0 0), none, some (.int .i64 i), none, none, none, none, none, none, none, none, none, none, none, none, none, none, none, none, none, none, none, none, none, none, none, none, none, none, none, none, none, none, none, none, none, none, none, none, none, none, none, none, none, none, none, none, none, none, none, none, none, none, none, none, none, none, none, none, none, none, none, none, none, none, none, none, none, none, none, none, none, none, none, none, none, none, none, none, none, none, none, none, none, none],
  [(⟨L + 1, 0⟩, .rows 55 4 true true [[.int .i64 cum, .int .i64 win, .fs 2 (gs.map kE), .fs 1 (ds.map eI)]])], if i = gs.length then 1000000 else 10000 * (i + 1)⟩) (pre := fun i => i ≤ gs.length ∧ ∀ j, j < i → okGp gs j = true) (μ := fun i => gs.length - i) 0 ⟨by omega, by intro j h; omega⟩ ?_ ?_
 ·refine Sub.of (hfz hF2) (by simp only [go_sem, subT, and_self, Int.natCast_zero]) ?_ (by simp [subK, keys]) (by simp only []; split <;> omega)
  simp [subH, Tx.look]
 ·rintro i ⟨hi, hp⟩
  have no : i < gs.length → okGp gs i = false → ((List.range gs.length).all (okGp gs) && ds.all (serB 32)) = false := by
   intro hl h
   rw [Bool.and_eq_false_iff]
   left
   rw [List.all_eq_false]
   exact ⟨i, by simpa using hl, by simp [h]⟩
  have yes : okGp gs i = true → ∀ j, j < i + 1 → okGp gs j = true := by
   intro h j hj
   by_cases he : j = i
   ·subst he; exact h
   ·exact hp j (by omega)
  by_cases hlt : i < gs.length
  ·have f1 : decide ((i : Int) < (gs.length : Int)) = true := dT (by omega)
   have hne : ¬ i = gs.length := by omega
   have r0 := rowK hlt
   obtain ⟨g, hg⟩ : ∃ g, g = gs.getD i (0, 0) := ⟨_, rfl⟩
   rw [← hg] at r0
   have hbef : i = 0 → befG gs i = 0 := fun h => by unfold befG; rw [if_pos h]
   have hbef2 : 0 < i → befG gs i = (gs.getD (i - 1) (0, 0)).2 := fun h => by unfold befG; rw [if_neg (by omega)]
   have hb0 : 0 ≤ befG gs i ∧ befG gs i ≤ 65535 := by
    have key : ∀ j, j < i → 0 ≤ befG gs j ∧ 0 ≤ (gs.getD j (0, 0)).2 ∧ (gs.getD j (0, 0)).2 ≤ 65535 := by
     intro j
     induction j with
     | zero =>
      intro hj
      have h7 := hp 0 hj
      unfold okGp at h7
      simp only [Bool.and_eq_true, decide_eq_true_eq] at h7
      have hb : befG gs 0 = 0 := by simp [befG]
      rw [hb] at h7 ⊢
      omega
     | succ j ih =>
      intro hj
      have h8 := ih (by omega)
      have h7 := hp (j + 1) hj
      unfold okGp at h7
      simp only [Bool.and_eq_true, decide_eq_true_eq] at h7
      have hb : befG gs (j + 1) = (gs.getD j (0, 0)).2 := by simp [befG]
      rw [hb] at h7 ⊢
      omega
    by_cases h0 : i = 0
    ·rw [hbef h0]; omega
    ·rw [hbef2 (by omega)]
     have := key (i - 1) (by omega)
     omega
   have bad : (g.1 < 2 ∨ g.2 < g.1 ∨ 65535 < g.2 ∨ (0 < i ∧ g.1 < (gs.getD (i - 1) (0, 0)).2 + 2)) → okGp gs i = false := by
    intro h
    unfold okGp
    rw [← hg]
    simp only [Bool.and_eq_false_iff, decide_eq_false_iff_not]
    rcases h with h | h | h | ⟨h9, h⟩
    ·left; omega
    ·right; left; omega
    ·right; right; omega
    ·left; rw [hbef2 h9]; omega
   by_cases c1 : g.1 < 2
   ·have k1 : decide (g.1 < 2) = true := dT c1
    rw [no hlt (bad (.inl c1))]
    simp only [f1, r0, k1, kE, hne, if_false, List.length_map, kS2, Nat.add_assoc, Nat.add_zero, go_sem]
    repeat refine sd2 ?_
    refine ⟨by kernel_rfl, ?_⟩
    exact .bool (.inr rfl) rfl rfl (by simp [UpdAll])
   have k1 : decide (g.1 < 2) = false := dF c1
   by_cases c2 : g.2 < g.1
   ·have k2 : decide (g.2 < g.1) = true := dT c2
    rw [no hlt (bad (.inr (.inl c2)))]
    simp only [f1, r0, k1, k2, kE, hne, if_false, List.length_map, kS2, Nat.add_assoc, Nat.add_zero, go_sem]
    repeat refine sd2 ?_
    refine ⟨by kernel_rfl, ?_⟩
    exact .bool (.inr rfl) rfl rfl (by simp [UpdAll])
   have k2 : decide (g.2 < g.1) = false := dF c2
   by_cases c3 : 65535 < g.2
   ·have k3 : decide (65535 < g.2) = true := dT c3
    rw [no hlt (bad (.inr (.inr (.inl c3))))]
    simp only [f1, r0, k1, k2, k3, kE, hne, if_false, List.length_map, kS2, Nat.add_assoc, Nat.add_zero, go_sem]
    repeat refine sd2 ?_
    refine ⟨by kernel_rfl, ?_⟩
    exact .bool (.inr rfl) rfl rfl (by simp [UpdAll])
   have k3 : decide (65535 < g.2) = false := dF c3
   by_cases h0 : 0 < i
   ·have k4 : decide ((0 : Int) < (i : Int)) = true := dT (by omega)
    have e1 : ((i : Int) - 1).toNat = i - 1 := by omega
    have r1 := rowK (sk := gs) (i := i - 1) (by omega)
    rw [hbef2 h0] at hb0
    obtain ⟨g', hg'⟩ : ∃ g', g' = gs.getD (i - 1) (0, 0) := ⟨_, rfl⟩
    rw [← hg'] at r1 bad hb0
    by_cases c5 : g.1 < g'.2 + 2
    ·have k5 : decide (g.1 < g'.2 + 2) = true := dT c5
     rw [no hlt (bad (.inr (.inr (.inr ⟨h0, c5⟩))))]
     simp only [f1, r0, r1, e1, k1, k2, k3, k4, k5, kE, hne, if_false, List.length_map, kS2, kS2', Nat.add_assoc, Nat.add_zero, go_sem]
     repeat refine sd2 ?_
     refine ⟨by kernel_rfl, ?_⟩
     repeat refine sd2 ?_
     exact .bool (.inr rfl) rfl rfl (by simp [UpdAll])
    ·have k5 : decide (g.1 < g'.2 + 2) = false := dF c5
     have good : okGp gs i = true := by
      unfold okGp
      rw [← hg, hbef2 h0, ← hg']
      simp only [Bool.and_eq_true, decide_eq_true_eq]
      omega
     simp only [f1, r0, r1, e1, k1, k2, k3, k4, k5, kE, hne, if_false, List.length_map, kS2, kS2', Nat.add_assoc, Nat.add_zero, go_sem]
     repeat refine sd2 ?_
     refine ⟨by kernel_rfl, ?_⟩
     repeat refine sd2 ?_
     repeat refine sd2 ?_
     refine ⟨i + 1, ⟨by omega, yes good⟩, by omega, ?_⟩
     refine Sub.of (hfz hF2) (by simp only [go_sem, subT, and_self, Int.natCast_succ]) ?_ (by simp [subK, keys]) (by simp only []; split <;> omega)
     simp [subH, Tx.look]
   ·have k4 : decide ((0 : Int) < (i : Int)) = false := dF (by omega)
    have good : okGp gs i = true := by
     unfold okGp
     rw [← hg, hbef (by omega)]
     simp only [Bool.and_eq_true, decide_eq_true_eq]
     omega
    simp only [f1, r0, k1, k2, k3, k4, kE, hne, if_false, List.length_map, kS2, Nat.add_assoc, Nat.add_zero, go_sem]
    repeat refine sd2 ?_
    refine ⟨by kernel_rfl, ?_⟩
    repeat refine sd2 ?_
    repeat refine sd2 ?_
    refine ⟨i + 1, ⟨by omega, yes good⟩, by omega, ?_⟩
    refine Sub.of (hfz hF2) (by simp only [go_sem, subT, and_self, Int.natCast_succ]) ?_ (by simp [subK, keys]) (by simp only []; split <;> omega)
    simp [subH, Tx.look]
  ·have f1 : decide ((i : Int) < (gs.length : Int)) = false := dF (by omega)
   have hin : i = gs.length := by omega
   have allg : (List.range gs.length).all (okGp gs) = true := by
    rw [List.all_eq_true]
    intro j hj
    exact hp j (by have := List.mem_range.1 hj; omega)
   rw [allg, Bool.true_and]
   subst hin
   simp only [f1, if_true, List.length_map, go_sem]
   repeat refine sd2 ?_
   refine loopK.intro _ _ (I := fun j : Nat => ⟨[none, some (.ptr ⟨L + 1, 0⟩ 0 0), none, none, none, some (.int .i64 j), none, none, none, none, none, none, none, none, none, none, none, none, none, none, none, none, none, none, none, none, none, none, none, none, none, none, none, none, none, none, none, none, none, none, none, none, none, none, none, none, none, none, none, none, none, none, none, none, none, none, none, none, none, none, none, none, none, none, none, none, none, none, none, none, none, none, none, none, none, none, none, none, none, none, none, none, none, none, none, none],
    [(⟨L + 1, 0⟩, .rows 55 4 true true [[.int .i64 cum, .int .i64 win, .fs 2 (gs.map kE), .fs 1 (ds.map eI)]])], 10000 * (1000 + j + 1)⟩) (pre := fun j => j ≤ ds.length ∧ ∀ k, k < j → serB 32 (ds.getD k 0) = true) (μ := fun j => ds.length - j) 0 ⟨by omega, by intro k h; omega⟩ ?_ ?_
   ·refine Sub.o hF2 ?_
    simp [subH, Tx.look]
   ·clear f1 hi hp no yes hlt
    rintro j ⟨hj, hq⟩
    by_cases hlt : j < ds.length
    ·have f1 : decide ((j : Int) < (ds.length : Int)) = true := dT (by omega)
     have r0 := getD_eI ds hlt
     obtain ⟨d, hd⟩ : ∃ d, d = ds.getD j 0 := ⟨_, rfl⟩
     have r1 : (ds.map eI).getD j [] = [.int .i64 d] := by rw [hd]; exact r0
     simp only [f1, r1, List.length_map, Nat.add_assoc, go_sem]
     repeat refine sd2 ?_
     refine CallVC.same (xWide_ok d) ?_
     cases h5 : serB 32 d with
     | false =>
      have : ds.all (serB 32) = false := by
       rw [List.all_eq_false]
       exact ⟨d, by rw [hd]; simp [List.getD_eq_getElem?_getD, hlt], by simp [h5]⟩
      rw [this]
      simp only [Nat.add_assoc, go_sem]
      exact .bool (.inr rfl) rfl rfl (by simp [UpdAll])
     | true =>
      simp only [Nat.add_assoc, go_sem]
      repeat refine sd2 ?_
      refine ⟨j + 1, ⟨by omega, fun k hk => ?_⟩, by omega, ?_⟩
      ·by_cases he : k = j
       ·subst he; rw [← hd]; exact h5
       ·exact hq k (by omega)
      ·refine Sub.o hF2 ?_
       simp [subH, Tx.look]
    ·have f1 : decide ((j : Int) < (ds.length : Int)) = false := dF (by omega)
     have : ds.all (serB 32) = true := by
      rw [List.all_eq_true]
      intro x hx
      obtain ⟨k, hk, e⟩ := List.getElem_of_mem hx
      have := hq k (by omega)
      rw [List.getD_eq_getElem?_getD, List.getElem?_eq_getElem hk] at this
      rw [← e]; exact this
     rw [this]
     simp only [f1, List.length_map, Nat.add_assoc, go_sem]
     exact .bool (.inr rfl) rfl rfl (by simp [UpdAll])
theorem rRightData_ok {F : SF} {L nx : Nat} (d : Dat) : Con Tryz.prog 22 [.agg d.row] F L nx nx (.bool d.ok) [] [] := by
 obtain ⟨tsn, st, sq, pr, fi, la, lo, pl⟩ := d
 have hok : Dat.ok ⟨tsn, st, sq, pr, fi, la, lo, pl⟩ = (serB 32 tsn && (serB 32 pr && (serB 16 st && (serB 16 sq && (decide ((1 : Int) ≤ pl.length) && (decide ((pl.length : Int) ≤ 1100) && !(lo && (sq != 0)))))))) := by
  unfold Dat.ok
  simp only [Bool.and_assoc]
  cases lo <;> simp [bne]
 rw [hok]
 refine bdy Tryz.f22 ?_
 intro F3 hF1 hF2
 have f0 : (!true) = false := rfl
 have f0' : (!false) = true := rfl
 simp only [Tryz.f22, cx, Dat.row, Nat.add_zero, go_sem, meths]
 repeat refine sd2 ?_
 refine CallVC.same (xWide_ok tsn) ?_
 cases h1 : serB 32 tsn with
 | false =>
  simp only [Bool.false_and, go_sem]
  repeat refine sd2 ?_
  exact PostF.rs (v0 := .bool false) (.inr rfl)
 | true =>
  simp only [Bool.true_and, go_sem]
  repeat refine sd2 ?_
  refine CallVC.same (xWide_ok pr) ?_
  cases h2 : serB 32 pr with
  | false =>
   simp only [Bool.false_and, go_sem]
   repeat refine sd2 ?_
   exact PostF.rs (v0 := .bool false) (.inr rfl)
  | true =>
   simp only [Bool.true_and, go_sem]
   repeat refine sd2 ?_
   refine CallVC.same (xShort_ok st) ?_
   cases h3 : serB 16 st with
   | false =>
    simp only [Bool.false_and, go_sem]
    repeat refine sd2 ?_
    exact PostF.rs (v0 := .bool false) (.inr rfl)
   | true =>
    simp only [Bool.true_and, go_sem]
    repeat refine sd2 ?_
    refine CallVC.same (xShort_ok sq) ?_
    cases h4 : serB 16 sq with
    | false =>
     simp only [Bool.false_and, go_sem]
     repeat refine sd2 ?_
     exact PostF.rs (v0 := .bool false) (.inr rfl)
    | true =>
     cases h5 : decide ((1 : Int) ≤ pl.length) with
     | false =>
      simp only [h5, Bool.true_and, Bool.false_and, go_sem]
      repeat refine sd2 ?_
      exact PostF.rs (v0 := .bool false) (.inr rfl)
     | true =>
      cases h6 : decide ((pl.length : Int) ≤ 1100) with
      | false =>
       simp only [h5, h6, Bool.true_and, Bool.false_and, go_sem]
       repeat refine sd2 ?_
       exact PostF.rs (v0 := .bool false) (.inr rfl)
      | true =>
       cases lo with
       | false =>
        simp only [h5, h6, f0', Bool.true_and, Bool.false_and, go_sem]
        repeat refine sd2 ?_
        exact PostF.rs (v0 := .bool true) (.inr rfl)
       | true =>
        cases h7 : (sq != 0) with
        | false =>
         simp only [h5, h6, h7, f0', Bool.true_and, Bool.false_and, go_sem]
         repeat refine sd2 ?_
         exact PostF.rs (v0 := .bool true) (.inr rfl)
        | true =>
         simp only [h5, h6, h7, f0, Bool.true_and, Bool.false_and, go_sem]
         repeat refine sd2 ?_
         exact PostF.rs (v0 := .bool false) (.inr rfl)
theorem rPutData_ok {F : SF} {L nx : Nat} (d : Dat) (hd : d.ok = true) : Con Tryz.prog 23 [.agg d.row] F L nx nx (.agg [.int .i64 0, .int .i64 (flD d.la d.fi d.lo 3), .str (dataB d)]) [] [] := by
 unfold Dat.ok at hd
 simp only [Bool.and_eq_true, decide_eq_true_eq] at hd
 obtain ⟨⟨h1, h2⟩, ⟨h3, h4⟩, h5, h6, h7⟩ := hd
 obtain ⟨tsn, st, sq, pr, fi, la, lo, pl⟩ := d
 simp only at h1 h2 h3 h4 h5 h6 h7
 obtain ⟨h1, k1⟩ := serB_nat h1
 obtain ⟨h2, k2⟩ := serB_nat h2
 obtain ⟨h3, k3⟩ := serB_nat h3
 obtain ⟨h4, k4⟩ := serB_nat h4
 obtain ⟨tn, htn⟩ : ∃ x, x = tsn.toNat := ⟨_, rfl⟩
 obtain ⟨sn, hsn⟩ : ∃ x, x = st.toNat := ⟨_, rfl⟩
 obtain ⟨qn, hqn⟩ : ∃ x, x = sq.toNat := ⟨_, rfl⟩
 obtain ⟨pn, hpn⟩ : ∃ x, x = pr.toNat := ⟨_, rfl⟩
 rw [← htn] at h1 k1
 rw [← hpn] at h2 k2
 rw [← hsn] at h3 k3
 rw [← hqn] at h4 k4
 have k1' : tn < 4294967296 := k1
 have k2' : pn < 4294967296 := k2
 have k3' : sn < 65536 := k3
 have k4' : qn < 65536 := k4
 refine bdy Tryz.f23 ?_
 intro F3 hF1 hF2
 subst h1 h2 h3 h4
 have p4 : ∀ (v : Nat), (putB 4 v).length = 4 := putB_len 4
 have p2 : ∀ (v : Nat), (putB 2 v).length = 2 := putB_len 2
 have hpl : pl.length ≤ 1100 := by omega
 have hA : putB 4 tn ++ (putB 2 sn ++ putB 2 qn) ++ putB 4 pn ++ pl = putB 4 tn ++ putB 2 sn ++ putB 2 qn ++ putB 4 pn ++ pl := by simp only [List.append_assoc]
 cases la <;> cases fi <;> cases lo
 all_goals
  simp only [Tryz.f23, cx, Dat.row, dataB, Int.toNat_natCast, hA, flD, if_true, if_false, Bool.false_eq_true, Nat.add_zero, go_sem, meths]
  repeat refine And.intro (by first | exact ⟨by omega, by omega⟩ | kernel_rfl) ?_
  refine CallVC.same (rPut_ok 4 tn (by omega) (by omega)) ?_
  simp only [go_sem]
  refine CallVC.same (rPut_ok 2 sn (by omega) (by omega)) ?_
  simp only [p4, p2, go_sem]
  repeat refine And.intro (by omega) ?_
  refine CallVC.same (rPut_ok 2 qn (by omega) (by omega)) ?_
  simp only [p4, p2, List.length_append, go_sem]
  repeat refine And.intro (by omega) ?_
  refine CallVC.same (rPut_ok 4 pn (by omega) (by omega)) ?_
  simp only [p4, p2, List.length_append, go_sem]
  repeat refine And.intro (by omega) ?_
  refine ⟨okDyn_num (fun x => x.i) (by kernel_rfl), ?_⟩
  exact PostF.same (p := True) (.inr rfl) (by first | (simp only [resVal, resVals, resVal1, one, go_sem]; done) | (simp only [resVal, resVals, resVal1, one, go_sem]; rfl)) trivial (by simp [Tx.nf, nfl]) (by simp [UpdAll])
theorem rRightInit_ok {F : SF} {L nx : Nat} (d : Ini) : Con Tryz.prog 31 [.agg d.row] F L nx nx (.bool d.ok) [] [] := by
 obtain ⟨tag, win, out, inn, tsn, ck⟩ := d
 have hok : Ini.ok ⟨tag, win, out, inn, tsn, ck⟩ = (serB 32 tag && ((tag != 0) && (serB 32 win && (serB 16 out && ((out != 0) && (serB 16 inn && ((inn != 0) && (serB 32 tsn && decide ((ck.length : Int) ≤ 200))))))))) := by
  unfold Ini.ok
  have p : ∀ b x : Int, serB b x = true → decide (0 < x) = (x != 0) := by
   intro b x h
   have := (serB_nat h).1
   by_cases hx : x = 0
   ·subst hx; rfl
   ·rw [show (x != 0) = true by simpa using hx]; exact decide_eq_true (by omega)
  simp only [Bool.and_assoc]
  cases h1 : serB 32 tag <;> cases h2 : serB 32 win <;> cases h3 : serB 32 tsn <;> cases h4 : serB 16 out <;> cases h5 : serB 16 inn <;> simp only [Bool.false_and, Bool.and_false, Bool.true_and]
  rw [p _ _ h1, p _ _ h4, p _ _ h5]
 rw [hok]
 refine bdy Tryz.f31 ?_
 intro F3 hF1 hF2
 simp only [Tryz.f31, cx, Ini.row, Nat.add_zero, go_sem, meths]
 repeat refine sd2 ?_
 refine CallVC.same (xWide_ok tag) ?_
 cases h1 : serB 32 tag with
 | false =>
  simp only [Bool.false_and, go_sem]
  repeat refine sd2 ?_
  exact PostF.rs (v0 := .bool false) (.inr rfl)
 | true =>
  cases h2 : (tag != 0) with
  | false =>
   simp only [h2, Bool.true_and, Bool.false_and, Nat.add_zero, go_sem]
   repeat refine sd2 ?_
   exact PostF.rs (v0 := .bool false) (.inr rfl)
  | true =>
   simp only [h2, Bool.true_and, Bool.false_and, Nat.add_zero, go_sem]
   repeat refine sd2 ?_
   refine CallVC.same (xWide_ok win) ?_
   cases h3 : serB 32 win with
   | false =>
    simp only [Bool.false_and, go_sem]
    repeat refine sd2 ?_
    exact PostF.rs (v0 := .bool false) (.inr rfl)
   | true =>
    simp only [Bool.true_and, Bool.false_and, go_sem]
    repeat refine sd2 ?_
    refine CallVC.same (xShort_ok out) ?_
    cases h4 : serB 16 out with
    | false =>
     simp only [Bool.false_and, go_sem]
     repeat refine sd2 ?_
     exact PostF.rs (v0 := .bool false) (.inr rfl)
    | true =>
     cases h5 : (out != 0) with
     | false =>
      simp only [h5, Bool.true_and, Bool.false_and, go_sem]
      repeat refine sd2 ?_
      exact PostF.rs (v0 := .bool false) (.inr rfl)
     | true =>
      simp only [h5, Bool.true_and, Bool.false_and, go_sem]
      repeat refine sd2 ?_
      refine CallVC.same (xShort_ok inn) ?_
      cases h6 : serB 16 inn with
      | false =>
       simp only [Bool.false_and, go_sem]
       repeat refine sd2 ?_
       exact PostF.rs (v0 := .bool false) (.inr rfl)
      | true =>
       cases h7 : (inn != 0) with
       | false =>
        simp only [h7, Bool.true_and, Bool.false_and, go_sem]
        repeat refine sd2 ?_
        exact PostF.rs (v0 := .bool false) (.inr rfl)
       | true =>
        simp only [h7, Bool.true_and, Bool.false_and, go_sem]
        repeat refine sd2 ?_
        refine CallVC.same (xWide_ok tsn) ?_
        cases h8 : serB 32 tsn with
        | false =>
         simp only [Bool.false_and, go_sem]
         repeat refine sd2 ?_
         exact PostF.rs (v0 := .bool false) (.inr rfl)
        | true =>
         simp only [Bool.true_and, Bool.false_and, go_sem]
         repeat refine sd2 ?_
         exact PostF.rs (v0 := .bool (decide ((ck.length : Int) ≤ 200))) (.inr rfl)
theorem rPutInit_ok {F : SF} {L nx : Nat} (d : Ini) (hd : d.ok = true) : Con Tryz.prog 32 [.agg d.row] F L nx nx (.agg [.int .i64 (iniK d.ck), .int .i64 0, .str d.oct]) [] [] := by
 unfold Ini.ok at hd
 simp only [Bool.and_eq_true, decide_eq_true_eq] at hd
 obtain ⟨⟨h1, h2, h5⟩, ⟨h3, h4⟩, _, _, _, h6⟩ := hd
 obtain ⟨tag, win, out, inn, tsn, ck⟩ := d
 simp only at h1 h2 h3 h4 h5 h6
 obtain ⟨h1, k1⟩ := serB_nat h1
 obtain ⟨h2, k2⟩ := serB_nat h2
 obtain ⟨h3, k3⟩ := serB_nat h3
 obtain ⟨h4, k4⟩ := serB_nat h4
 obtain ⟨h5, k5⟩ := serB_nat h5
 obtain ⟨a, ha⟩ : ∃ x, x = tag.toNat := ⟨_, rfl⟩
 obtain ⟨b, hb⟩ : ∃ x, x = win.toNat := ⟨_, rfl⟩
 obtain ⟨c, hc⟩ : ∃ x, x = out.toNat := ⟨_, rfl⟩
 obtain ⟨e, he⟩ : ∃ x, x = inn.toNat := ⟨_, rfl⟩
 obtain ⟨f, hf⟩ : ∃ x, x = tsn.toNat := ⟨_, rfl⟩
 rw [← ha] at h1 k1
 rw [← hb] at h2 k2
 rw [← hc] at h3 k3
 rw [← he] at h4 k4
 rw [← hf] at h5 k5
 have k1' : a < 4294967296 := k1
 have k2' : b < 4294967296 := k2
 have k3' : c < 65536 := k3
 have k4' : e < 65536 := k4
 have k5' : f < 4294967296 := k5
 refine bdy Tryz.f32 ?_
 intro F3 hF1 hF2
 subst h1 h2 h3 h4 h5
 have p4 : ∀ (v : Nat), (putB 4 v).length = 4 := putB_len 4
 have p2 : ∀ (v : Nat), (putB 2 v).length = 2 := putB_len 2
 have hpl : ck.length ≤ 200 := by omega
 simp only [Tryz.f32, cx, Ini.row, Ini.oct, Int.toNat_natCast, Nat.add_zero, go_sem, meths]
 repeat refine And.intro (by first | exact ⟨by omega, by omega⟩ | kernel_rfl) ?_
 refine CallVC.same (rPut_ok 4 a (by omega) (by omega)) ?_
 simp only [go_sem]
 refine CallVC.same (rPut_ok 4 b (by omega) (by omega)) ?_
 simp only [p4, go_sem]
 repeat refine And.intro (by omega) ?_
 refine CallVC.same (rPut_ok 2 c (by omega) (by omega)) ?_
 simp only [p4, p2, List.length_append, go_sem]
 repeat refine And.intro (by omega) ?_
 refine CallVC.same (rPut_ok 2 e (by omega) (by omega)) ?_
 simp only [p4, p2, List.length_append, go_sem]
 repeat refine And.intro (by omega) ?_
 refine CallVC.same (rPut_ok 4 f (by omega) (by omega)) ?_
 simp only [p4, p2, List.length_append, Nat.add_zero, go_sem]
 repeat refine And.intro (by omega) ?_
 refine ⟨okDyn_num (fun x => x.i) (by kernel_rfl), ?_⟩
 have hA : iniB a b c e f ck = putB 4 a ++ putB 4 b ++ putB 2 c ++ putB 2 e ++ putB 4 f ++ ck := by simp only [iniB, List.append_assoc]
 rw [hA]
 by_cases hk : ck = []
 ·have f1 : (!(ck == ([] : List UInt8))) = false := by rw [hk]; rfl
  have f2 : iniK ck = 1 := by rw [hk]; rfl
  rw [f2]
  simp only [f1, go_sem]
  repeat refine And.intro (by omega) ?_
  exact PostF.same (p := True) (.inr rfl) (by simp only [resVal, resVals, resVal1, one, go_sem]) trivial (by simp [Tx.nf, nfl]) (by simp [UpdAll])
 ·have f1 : (!(ck == ([] : List UInt8))) = true := by cases ck with
   | nil => exact absurd rfl hk
   | cons x l => rfl
  have f2 : iniK ck = 2 := by simp [iniK, hk]
  rw [f2]
  simp only [f1, go_sem]
  repeat refine And.intro (by omega) ?_
  exact PostF.same (p := True) (.inr rfl) (by simp only [resVal, resVals, resVal1, one, go_sem]) trivial (by simp [Tx.nf, nfl]) (by simp [UpdAll])
theorem rRightForward_ok {F : SF} {L nx : Nat} (cum : Int) (sk : List (Int × Int)) (hlen : sk.length ≤ 1000000) : Con Tryz.prog 35 [fwdP cum sk] F L nx nx (.bool (fwdV cum sk)) [] [] := by
 refine bdy Tryz.f35 ?_
 intro F3 hF1 hF2
 simp only [Tryz.f35, cx, fwdP, go_sem, meths]
 refine loopK.intro _ _ (I := fun i : Nat => ⟨[none, some (.ptr ⟨L + 1, 0⟩ 0 0), none, some (.int .i64 i), none, none, none, none, none, none, none, none, none, none, none, none, none, none, none, none, none, none, none, none, none, none, none, none, none, none, none, none, none, none, none, none, none, none, none, none, none, none, none, none, none, none, none, none, none, none, none, none, none, none, none, none, none, none, none, none, none, none],
  [(⟨L + 1, 0⟩, .rows 59 2 true true [[.int .i64 cum, .fs 2 (sk.map kE)]])], 10000 * (i + 1)⟩) (pre := fun i => i ≤ sk.length ∧ i ≤ 31 ∧ ∀ j, j < i → okSk sk j = true) (μ := fun i => sk.length - i) 0 ⟨by omega, by omega, by intro j h; omega⟩ ?_ ?_
 ·refine Sub.of (hfz hF2) (by simp only [go_sem, subT, and_self, Int.natCast_zero]) ?_ (by simp [subK, keys]) (by simp)
  simp [subH, Tx.look]
 ·rintro i ⟨hi, hi31, hp⟩
  have no : i < sk.length → okSk sk i = false → fwdV cum sk = false := by
   intro hl h
   unfold fwdV
   rw [Bool.and_eq_false_iff]
   left
   rw [List.all_eq_false]
   exact ⟨i, by simpa using hl, by simp [h]⟩
  have yes : okSk sk i = true → ∀ j, j < i + 1 → okSk sk j = true := by
   intro h j hj
   by_cases he : j = i
   ·subst he; exact h
   ·exact hp j (by omega)
  have fin : (i = sk.length ∨ i = 31) → fwdV cum sk = (serB 32 cum && decide ((sk.length : Int) ≤ 30)) := by
   intro h
   rw [show decide ((sk.length : Int) ≤ 30) = decide (sk.length ≤ 30) by rw [Bool.eq_iff_iff]; simp; omega]
   by_cases h30 : sk.length ≤ 30
   ·have : (List.range sk.length).all (okSk sk) = true := by
     rw [List.all_eq_true]
     intro j hj
     exact hp j (by have := List.mem_range.1 hj; omega)
    unfold fwdV
    rw [this, Bool.true_and]
   ·unfold fwdV
    simp [h30]
  by_cases hlt : i < sk.length
  ·have f1 : decide ((i : Int) < (sk.length : Int)) = true := dT (by omega)
   by_cases h31 : i < 31
   ·have f2 : decide ((i : Int) < 31) = true := dT (by omega)
    have r0 := rowK hlt
    obtain ⟨k, hk⟩ : ∃ k, k = sk.getD i (0, 0) := ⟨_, rfl⟩
    rw [← hk] at r0
    simp only [f1, f2, r0, kE, Int.toNat_natCast, Nat.add_assoc, List.length_map, Nat.add_zero, go_sem]
    repeat refine sd2 ?_
    refine CallVC.same (xShort_ok k.1) ?_
    cases h1 : serB 16 k.1 with
    | false =>
     rw [no hlt (by unfold okSk; rw [← hk, h1]; rfl)]
     simp only [Nat.add_assoc, go_sem]
     repeat refine sd2 ?_
     refine ⟨okDyn_num (fun x => x.i % 10000) (by simp only [numF, List.map, Nat.reduceMod]; kernel_rfl), ?_⟩
     repeat refine sd2 ?_
     exact .bool (.inr rfl) rfl rfl (by simp [UpdAll])
    | true =>
    simp only [r0, kE, Int.toNat_natCast, Nat.add_assoc, List.length_map, go_sem]
    repeat refine sd2 ?_
    refine CallVC.same (xShort_ok k.2) ?_
    cases h2 : serB 16 k.2 with
    | false =>
     rw [no hlt (by unfold okSk; rw [← hk, h1, h2]; rfl)]
     simp only [Nat.add_assoc, go_sem]
     repeat refine sd2 ?_
     refine ⟨okDyn_num (fun x => x.i % 10000) (by simp only [numF, List.map, Nat.reduceMod]; kernel_rfl), ?_⟩
     repeat refine sd2 ?_
     exact .bool (.inr rfl) rfl rfl (by simp [UpdAll])
    | true =>
    by_cases h3 : i = 0
    ·have f3 : decide ((0 : Int) < (i : Int)) = false := dF (by omega)
     simp only [f3, Nat.add_assoc, go_sem]
     repeat refine sd2 ?_
     refine ⟨okDyn_num (fun x => x.i % 10000) (by simp only [numF, List.map, Nat.reduceMod]; kernel_rfl), ?_⟩
     repeat refine sd2 ?_
     refine ⟨i + 1, ⟨by omega, by omega, yes (by unfold okSk; rw [← hk, h1, h2, h3]; rfl)⟩, by omega, ?_⟩
     refine Sub.o hF2 ?_
     simp [subH, Tx.look]
    ·have f3 : decide ((0 : Int) < (i : Int)) = true := dT (by omega)
     have e1 : ((i : Int) - 1).toNat = i - 1 := by omega
     have r1 := rowK (sk := sk) (i := i - 1) (by omega)
     obtain ⟨k', hk'⟩ : ∃ k, k = sk.getD (i - 1) (0, 0) := ⟨_, rfl⟩
     rw [← hk'] at r1
     have hz : (i == 0) = false := by simp; omega
     by_cases h4 : k.1 ≤ k'.1
     ·have f4 : decide (k.1 ≤ k'.1) = true := dT h4
      rw [no hlt (by unfold okSk; rw [← hk, ← hk', h1, h2, hz]; simp; omega)]
      simp only [f3, f4, e1, r0, r1, kE, Int.toNat_natCast, Nat.add_assoc, List.length_map, Nat.add_zero, go_sem]
      repeat refine sd2 ?_
      refine ⟨okDyn_num (fun x => x.i % 10000) (by simp only [numF, List.map, Nat.reduceMod]; kernel_rfl), ?_⟩
      repeat refine sd2 ?_
      exact .bool (.inr rfl) rfl rfl (by simp [UpdAll])
     ·have f4 : decide (k.1 ≤ k'.1) = false := dF h4
      simp only [f3, f4, e1, r0, r1, kE, Int.toNat_natCast, Nat.add_assoc, List.length_map, Nat.add_zero, go_sem]
      repeat refine sd2 ?_
      refine ⟨okDyn_num (fun x => x.i % 10000) (by simp only [numF, List.map, Nat.reduceMod]; kernel_rfl), ?_⟩
      repeat refine sd2 ?_
      refine ⟨i + 1, ⟨by omega, by omega, yes (by unfold okSk; rw [← hk, ← hk', h1, h2, hz]; simp; omega)⟩, by omega, ?_⟩
      refine Sub.o hF2 ?_
      simp [subH, Tx.look]
   ·have f2 : decide ((i : Int) < 31) = false := dF (by omega)
    rw [fin (.inr (by omega))]
    simp only [f1, f2, Nat.add_assoc, List.length_map, Nat.add_zero, go_sem]
    repeat refine sd2 ?_
    refine CallVC.same (xWide_ok cum) ?_
    cases h5 : serB 32 cum with
    | false =>
     simp only [Nat.add_assoc, go_sem]
     exact .bool (.inr rfl) rfl rfl (by simp [UpdAll])
    | true =>
     simp only [Nat.add_assoc, List.length_map, go_sem]
     exact .bool (.inr rfl) rfl rfl (by simp [UpdAll])
  ·have f1 : decide ((i : Int) < (sk.length : Int)) = false := dF (by omega)
   rw [fin (.inl (by omega))]
   simp only [f1, Nat.add_assoc, List.length_map, Nat.add_zero, go_sem]
   repeat refine sd2 ?_
   refine CallVC.same (xWide_ok cum) ?_
   cases h5 : serB 32 cum with
   | false =>
    simp only [Nat.add_assoc, go_sem]
    exact .bool (.inr rfl) rfl rfl (by simp [UpdAll])
   | true =>
    simp only [Nat.add_assoc, List.length_map, go_sem]
    exact .bool (.inr rfl) rfl rfl (by simp [UpdAll])
theorem serB8_eq (x : Int) : serB 8 x = (decide (0 ≤ x) && decide (x ≤ 255)) := by
 have h16 : (2 : Int) ^ (Int.toNat 8) = 256 := rfl
 unfold serB; rw [h16]; congr 1; rw [decide_eq_decide]; omega
theorem serB32_0 : serB 32 0 = true := by
 have h : (2 : Int) ^ (Int.toNat 32) = 4294967296 := rfl
 unfold serB; rw [h]; rfl
theorem resetV_num {k n la r : Int} {xs : List Int} (h : serB 32 n = false) : resetV k n la r xs = false := by
 unfold resetV; rw [h]; simp
theorem resetV_two {n la r : Int} {xs : List Int} (hn : serB 32 n = true) : resetV 2 n la r xs = (la == 0 && ((xs.length : Int) == 0) && decide (0 ≤ r) && decide (r ≤ 255)) := by
 unfold resetV
 rw [if_pos rfl, hn, serB8_eq]
 cases xs with
 | nil =>
  cases hl : la == 0 with
  | false => simp
  | true =>
   have : la = 0 := by simpa using hl
   subst this
   rw [serB32_0]
   simp [incB]
 | cons x xs =>
  have : ((((x :: xs).length : Nat) : Int) == 0) = false := by apply eqF; simp; omega
  rw [this]
  simp
theorem resetV_long {k n la r : Int} {xs : List Int} (hk : k ≠ 2) (h : 31 ≤ xs.length) : resetV k n la r xs = false := by
 unfold resetV
 rw [if_neg hk, show decide (xs.length ≤ 30) = false from dF (by omega)]
 simp
theorem resetV_inc {k n la r : Int} {xs : List Int} (hi : incB xs = false) : resetV k n la r xs = false := by
 unfold resetV; rw [hi]; simp
theorem resetV_one {k n la r : Int} {xs : List Int} (hk : k ≠ 2) (hn : serB 32 n = true) (hi : incB xs = true) : resetV k n la r xs = ((k == 1) && serB 32 la && (r == 0) && decide (1 ≤ (xs.length : Int)) && decide ((xs.length : Int) ≤ 30)) := by
 unfold resetV
 rw [if_neg hk, hn, hi, show decide (1 ≤ (xs.length : Int)) = decide (1 ≤ xs.length) by rw [decide_eq_decide]; omega, show decide ((xs.length : Int) ≤ 30) = decide (xs.length ≤ 30) by rw [decide_eq_decide]; omega]
 cases hr : r == 0 with
 | false => simp
 | true =>
  have : r = 0 := by simpa using hr
  subst this
  rw [serB8_eq]
  cases k == 1 <;> cases serB 32 la <;> simp
theorem xRightReset_ok {F : SF} {L nx : Nat} (kind num last res : Int) (xs : List Int) (hlen : xs.length ≤ 1000000) :
  Con Tryz.prog 39 [rstP kind num last res (.fs 1 (xs.map eI))] F L nx nx (.bool (resetV kind num last res xs)) [] [] := by
 have hw := fun F L nx => xWide_ok (F := F) (L := L) (nx := nx) num
 refine bdy Tryz.f39 ?_
 intro F3 hF1 hF2
 simp only [Tryz.f39, cx, rstP, go_sem, meths]
 refine CallVC.same (hw _ _ _) ?_
 cases hn : serB 32 num with
 | false =>
  rw [resetV_num hn]
  simp only [go_sem]
  repeat refine sd2 ?_
  exact .bool (.inr rfl) rfl rfl (by simp [UpdAll])
 | true =>
 by_cases hk : kind = 2
 ·subst hk
  rw [resetV_two hn]
  have f0 : ((2 : Int) == 2) = true := rfl
  cases c1 : last == 0 with
  | false =>
   simp only [f0, c1, Nat.add_zero, go_sem]
   repeat refine sd2 ?_
   exact .bool (.inr rfl) rfl rfl (by simp [UpdAll])
  | true =>
  cases c2 : (xs.length : Int) == 0 with
  | false =>
   simp only [f0, c1, c2, List.length_map, Nat.add_zero, go_sem]
   repeat refine sd2 ?_
   exact .bool (.inr rfl) rfl rfl (by simp [UpdAll])
  | true =>
  cases c3 : decide (0 ≤ res) with
  | false =>
   simp only [f0, c1, c2, c3, List.length_map, Nat.add_zero, go_sem]
   repeat refine sd2 ?_
   exact .bool (.inr rfl) rfl rfl (by simp [UpdAll])
  | true =>
  cases c4 : decide (res ≤ 255) with
  | false =>
   simp only [f0, c1, c2, c3, c4, List.length_map, Nat.add_zero, go_sem]
   repeat refine sd2 ?_
   exact .bool (.inr rfl) rfl rfl (by simp [UpdAll])
  | true =>
  simp only [f0, c1, c2, c3, c4, List.length_map, Nat.add_zero, go_sem]
  repeat refine sd2 ?_
  exact .bool (.inr rfl) rfl rfl (by simp [UpdAll])
 have f0 : (kind == 2) = false := eqF hk
 simp only [f0, Nat.add_zero, go_sem]
 repeat refine sd2 ?_
 refine loopK.intro _ _ (I := fun i : Nat => ⟨[none, some (.ptr ⟨L + 1, 0⟩ 0 0), none, some (.int .i64 i), none, none, none, none, none, none, none, none, none, none, none, none, none, none, none, none, none, none, none, none, none, none, none, none, none, none, none, none, none, none, none, none, none, none, none, none, none, none, none, none, none, none, none, none, none, none, none, none, none, none, none, none, none, none, none, none, none, none, none, none, none, none, none, none, none, none, none, none, none, none, none, none, none, none, none, none, none, none, none, none, none, none, none, none, none, none, none],
  [(⟨L + 1, 0⟩, .rows 61 5 true true [[.int .i64 kind, .int .i64 num, .int .i64 last, .int .i64 res, .fs 1 (xs.map eI)]])], 10000 * (i + 1)⟩) (pre := fun i => i ≤ xs.length ∧ i ≤ 31 ∧ ∀ j, j < i → (serB 16 (xs.getD j 0) && (j == 0 || decide (xs.getD (j - 1) 0 < xs.getD j 0))) = true) (μ := fun i => xs.length - i) 0 ⟨by omega, by omega, by intro j h; omega⟩ ?_ ?_
 ·refine Sub.of (hfz hF2) (by simp only [go_sem, subT, and_self, Int.natCast_zero]) ?_ (by simp [subK, keys]) (by simp)
  simp [subH, Tx.look]
 ·rintro i ⟨hi, hi31, hp⟩
  have no : i < xs.length → (serB 16 (xs.getD i 0) && (i == 0 || decide (xs.getD (i - 1) 0 < xs.getD i 0))) = false → resetV kind num last res xs = false := by
   intro hl h
   apply resetV_inc
   unfold incB
   rw [List.all_eq_false]
   exact ⟨i, by simpa using hl, by rw [h]; decide⟩
  have yes : (serB 16 (xs.getD i 0) && (i == 0 || decide (xs.getD (i - 1) 0 < xs.getD i 0))) = true → ∀ j, j < i + 1 → (serB 16 (xs.getD j 0) && (j == 0 || decide (xs.getD (j - 1) 0 < xs.getD j 0))) = true := by
   intro h j hj
   by_cases he : j = i
   ·subst he; exact h
   ·exact hp j (by omega)
  have fin : (i = xs.length ∨ i = 31) → resetV kind num last res xs = ((kind == 1) && serB 32 last && (res == 0) && decide (1 ≤ (xs.length : Int)) && decide ((xs.length : Int) ≤ 30)) := by
   intro h
   by_cases h31 : 31 ≤ xs.length
   ·rw [resetV_long hk h31, show decide ((xs.length : Int) ≤ 30) = false from dF (by omega), Bool.and_false]
   ·refine resetV_one hk hn ?_
    unfold incB
    rw [List.all_eq_true]
    intro j hj
    exact hp j (by simp at hj; omega)
  by_cases hlt : i < xs.length
  ·have f1 : decide ((i : Int) < (xs.length : Int)) = true := dT (by omega)
   by_cases h31 : i < 31
   ·have f2 : decide ((i : Int) < 31) = true := dT (by omega)
    have r0 := getD_eI xs hlt
    simp only [f1, f2, r0, eI, Int.toNat_natCast, Nat.add_assoc, List.length_map, go_sem]
    repeat refine sd2 ?_
    refine CallVC.same (xShort_ok (xs.getD i 0)) ?_
    cases h1 : serB 16 (xs.getD i 0) with
    | false =>
     rw [no hlt (by rw [h1]; rfl)]
     simp only [Nat.add_assoc, go_sem]
     repeat refine sd2 ?_
     refine ⟨okDyn_num (fun x => x.i % 10000) (by simp only [numF, List.map, Nat.reduceMod]; kernel_rfl), ?_⟩
     repeat refine sd2 ?_
     exact .bool (.inr rfl) rfl rfl (by simp [UpdAll])
    | true =>
    by_cases h3 : i = 0
    ·have f3 : decide ((0 : Int) < (i : Int)) = false := dF (by omega)
     simp only [f3, Nat.add_assoc, go_sem]
     repeat refine sd2 ?_
     refine ⟨okDyn_num (fun x => x.i % 10000) (by simp only [numF, List.map, Nat.reduceMod]; kernel_rfl), ?_⟩
     repeat refine sd2 ?_
     refine ⟨i + 1, ⟨by omega, by omega, yes (by rw [h1, h3]; rfl)⟩, by omega, ?_⟩
     refine Sub.o hF2 ?_
     simp [subH, Tx.look]
    ·have f3 : decide ((0 : Int) < (i : Int)) = true := dT (by omega)
     have e1 : ((i : Int) - 1).toNat = i - 1 := by omega
     have r1 := getD_eI xs (i := i - 1) (by omega)
     have hz : (i == 0) = false := by simp; omega
     by_cases h4 : xs.getD i 0 ≤ xs.getD (i - 1) 0
     ·have f4 : decide (xs.getD i 0 ≤ xs.getD (i - 1) 0) = true := dT h4
      rw [no hlt (by rw [h1, hz, dF (show ¬ xs.getD (i - 1) 0 < xs.getD i 0 by omega)]; rfl)]
      simp only [f3, f4, e1, r0, r1, eI, Int.toNat_natCast, Nat.add_assoc, List.length_map, go_sem]
      repeat refine sd2 ?_
      refine ⟨okDyn_num (fun x => x.i % 10000) (by simp only [numF, List.map, Nat.reduceMod]; kernel_rfl), ?_⟩
      repeat refine sd2 ?_
      exact .bool (.inr rfl) rfl rfl (by simp [UpdAll])
     ·have f4 : decide (xs.getD i 0 ≤ xs.getD (i - 1) 0) = false := dF h4
      simp only [f3, f4, e1, r0, r1, eI, Int.toNat_natCast, Nat.add_assoc, List.length_map, go_sem]
      repeat refine sd2 ?_
      refine ⟨okDyn_num (fun x => x.i % 10000) (by simp only [numF, List.map, Nat.reduceMod]; kernel_rfl), ?_⟩
      repeat refine sd2 ?_
      refine ⟨i + 1, ⟨by omega, by omega, yes (by rw [h1, hz, dT (show xs.getD (i - 1) 0 < xs.getD i 0 by omega)]; rfl)⟩, by omega, ?_⟩
      refine Sub.o hF2 ?_
      simp [subH, Tx.look]
   ·have f2 : decide ((i : Int) < 31) = false := dF (by omega)
    rw [fin (.inr (by omega))]
    clear fin no yes hp
    cases d1 : kind == 1 with
    | false =>
     simp only [f1, f2, d1, Nat.add_assoc, List.length_map, Nat.add_zero, go_sem]
     repeat refine sd2 ?_
     exact .bool (.inr rfl) rfl rfl (by simp [UpdAll])
    | true =>
    simp only [f1, f2, d1, Nat.add_assoc, List.length_map, Nat.add_zero, go_sem]
    repeat refine sd2 ?_
    refine CallVC.same (xWide_ok last) ?_
    cases d5 : serB 32 last with
    | false =>
     simp only [Nat.add_assoc, go_sem]
     repeat refine sd2 ?_
     exact .bool (.inr rfl) rfl rfl (by simp [UpdAll])
    | true =>
    cases d2 : res == 0 with
    | false =>
     simp only [d2, Nat.add_assoc, go_sem]
     repeat refine sd2 ?_
     exact .bool (.inr rfl) rfl rfl (by simp [UpdAll])
    | true =>
    cases d3 : decide (1 ≤ (xs.length : Int)) with
    | false =>
     simp only [d2, d3, Nat.add_assoc, List.length_map, go_sem]
     repeat refine sd2 ?_
     exact .bool (.inr rfl) rfl rfl (by simp [UpdAll])
    | true =>
    cases d4 : decide ((xs.length : Int) ≤ 30) with
    | false =>
     simp only [d2, d3, d4, Nat.add_assoc, List.length_map, go_sem]
     repeat refine sd2 ?_
     exact .bool (.inr rfl) rfl rfl (by simp [UpdAll])
    | true =>
    simp only [d2, d3, d4, Nat.add_assoc, List.length_map, go_sem]
    repeat refine sd2 ?_
    exact .bool (.inr rfl) rfl rfl (by simp [UpdAll])
  ·have f1 : decide ((i : Int) < (xs.length : Int)) = false := dF (by omega)
   rw [fin (.inl (by omega))]
   clear fin no yes hp
   cases d1 : kind == 1 with
   | false =>
    simp only [f1, d1, Nat.add_assoc, List.length_map, Nat.add_zero, go_sem]
    repeat refine sd2 ?_
    exact .bool (.inr rfl) rfl rfl (by simp [UpdAll])
   | true =>
   simp only [f1, d1, Nat.add_assoc, List.length_map, Nat.add_zero, go_sem]
   repeat refine sd2 ?_
   refine CallVC.same (xWide_ok last) ?_
   cases d5 : serB 32 last with
   | false =>
    simp only [Nat.add_assoc, go_sem]
    repeat refine sd2 ?_
    exact .bool (.inr rfl) rfl rfl (by simp [UpdAll])
   | true =>
   cases d2 : res == 0 with
   | false =>
    simp only [d2, Nat.add_assoc, go_sem]
    repeat refine sd2 ?_
    exact .bool (.inr rfl) rfl rfl (by simp [UpdAll])
   | true =>
   cases d3 : decide (1 ≤ (xs.length : Int)) with
   | false =>
    simp only [d2, d3, Nat.add_assoc, List.length_map, go_sem]
    repeat refine sd2 ?_
    exact .bool (.inr rfl) rfl rfl (by simp [UpdAll])
   | true =>
   cases d4 : decide ((xs.length : Int) ≤ 30) with
   | false =>
    simp only [d2, d3, d4, Nat.add_assoc, List.length_map, go_sem]
    repeat refine sd2 ?_
    exact .bool (.inr rfl) rfl rfl (by simp [UpdAll])
   | true =>
   simp only [d2, d3, d4, Nat.add_assoc, List.length_map, go_sem]
   repeat refine sd2 ?_
   exact .bool (.inr rfl) rfl rfl (by simp [UpdAll])
theorem xPutForward_ok {F : SF} {L nx : Nat} (cum : Nat) (sk : List (Nat × Nat)) (h1 : cum < 2 ^ 32) (h2 : ∀ k ∈ sk, k.1 < 65536 ∧ k.2 < 65536) (hlen : sk.length ≤ 1000) : Con Tryz.prog 36 [fwdP cum (sk.map kN)] F L nx nx (.agg [.int .i64 192, .int .i64 0, .str (fwdT cum sk)]) [] [] := by
 refine bdy Tryz.f36 ?_
 intro F3 hF1 hF2
 simp only [Tryz.f36, cx, fwdP, Nat.add_zero, go_sem, meths]
 repeat refine sd2 ?_
 refine CallVC.same (rPut_ok 4 cum (by omega) (by omega)) ?_
 simp only [go_sem]
 repeat refine sd2 ?_
 have l4 := putB_len 4 cum
 obtain ⟨T, hT⟩ : ∃ T : Nat → List UInt8, T = fun i => putB 4 cum ++ (sk.take i).flatMap fun k => putB 2 k.1 ++ putB 2 k.2 := ⟨_, rfl⟩
 have hT0 : T 0 = putB 4 cum := by rw [hT]; simp
 have hTl : ∀ i, (T i).length ≤ 4 + 4 * sk.length := by
  intro i
  rw [hT]
  simp only [List.length_append, l4, skT_len, List.length_take]
  omega
 refine loopK.intro _ _ (I := fun i : Nat => ⟨[none, some (.ptr ⟨L + 1, 0⟩ 0 0), some (.ptr ⟨L + 1, 32⟩ 0 0), some (.str (T i)), some (.int .i64 i), none, none, none, none, none, none, none, none, none, none, none, none, none, none, none, none, none, none, none, none, none, none, none, none, none, none, none, none, none],
  [(⟨L + 1, 0⟩, .rows 59 2 true true [[.int .i64 cum, .fs 2 ((sk.map kN).map kE)]]), (⟨L + 1, 32⟩, .rows 34 3 true true [[.int .i64 0, .int .i64 0, .str []]])], 10000 * (i + 1)⟩) (pre := fun i => i ≤ sk.length) (μ := fun i => sk.length - i) 0 (by omega) ?_ ?_
 ·refine Sub.of (hfz hF2) (by simp only [hT0, go_sem, subT, and_self, Int.natCast_zero]; try trivial) ?_ (by simp [subK, keys]) (by simp)
  simp [subH, Tx.look]
 ·intro i hi
  have hl := hTl i
  by_cases hlt : i < sk.length
  ·have f1 : decide ((i : Int) < (sk.length : Int)) = true := dT (by omega)
   have r0 := rowK (sk := sk.map kN) (i := i) (by simpa using hlt)
   obtain ⟨k, hk⟩ : ∃ k, k = sk[i] := ⟨_, rfl⟩
   have e0 : (sk.map kN).getD i (0, 0) = kN k := by rw [hk]; simp [hlt, List.getD_eq_getElem?_getD]
   rw [e0] at r0
   have hkb := h2 k (by rw [hk]; exact List.getElem_mem hlt)
   have hTs : T (i + 1) = T i ++ putB 2 k.1 ++ putB 2 k.2 := by
    rw [hT]
    simp only
    rw [List.take_succ_eq_append_getElem hlt, List.flatMap_append, ← hk]
    simp
   have p2 : ∀ (v : Nat), (putB 2 v).length = 2 := putB_len 2
   simp only [f1, r0, kE, kN, Int.toNat_natCast, List.length_map, Nat.add_assoc, Nat.add_zero, go_sem]
   repeat refine sd2 ?_
   refine CallVC.same (rPut_ok 2 k.1 (by omega) (by omega)) ?_
   simp only [r0, kE, kN, p2, Int.toNat_natCast, List.length_map, Nat.add_assoc, go_sem]
   repeat refine sd2 ?_
   refine CallVC.same (rPut_ok 2 k.2 (by omega) (by omega)) ?_
   simp only [p2, List.length_append, Nat.add_assoc, go_sem]
   refine ⟨by omega, okDyn_num (fun x => x.i) (by kernel_rfl), ?_⟩
   repeat refine sd2 ?_
   refine ⟨i + 1, by omega, by omega, Sub.of (hfz hF2) (by simp only [hTs, go_sem, subT, and_self, Int.natCast_succ]; try trivial) ?_ (by simp [subK, keys]) (by simp only []; omega)⟩
   simp [subH, Tx.look]
  ·have f1 : decide ((i : Int) < (sk.length : Int)) = false := dF (by omega)
   have hin : i = sk.length := by omega
   subst hin
   have hTe : T sk.length = fwdT cum sk := by rw [hT]; simp [fwdT]
   simp only [f1, hTe, List.length_map, Nat.add_assoc, go_sem]
   repeat refine sd2 ?_
   exact PostF.same (p := True) (.inr rfl) (by simp only [resVal, resVals, resVal1, one, go_sem]) trivial (by simp [Tx.nf, nfl]) (by simp [UpdAll])
theorem xPutReset2_ok {F : SF} {L nx : Nat} (num res : Nat) (last : Int) (xs : List Int) (h1 : num < 2 ^ 32) (h2 : res < 256) : Con Tryz.prog 40 [rstP 2 num last res (.fs 1 (xs.map eI))] F L nx nx (.agg [.int .i64 130, .int .i64 0, .str (putB 1 2 ++ putB 4 num ++ putB 1 res)]) [] [] := by
 refine bdy Tryz.f40 ?_
 intro F3 hF1 hF2
 have f0 : ((2 : Int) == 2) = true := rfl
 have p4 : ∀ (v : Nat), (putB 4 v).length = 4 := putB_len 4
 have p1 : ∀ (v : Nat), (putB 1 v).length = 1 := putB_len 1
 simp only [Tryz.f40, cx, rstP, Nat.add_zero, go_sem, meths]
 repeat refine sd2 ?_
 refine CallVC.same (rPut_ok 1 2 (by omega) (by omega)) ?_
 simp only [go_sem]
 repeat refine sd2 ?_
 refine CallVC.same (rPut_ok 4 num (by omega) (by omega)) ?_
 simp only [f0, p4, p1, Nat.add_zero, go_sem]
 repeat refine sd2 ?_
 refine ⟨okDyn_num (fun x => x.i) (by kernel_rfl), ?_⟩
 repeat refine sd2 ?_
 refine CallVC.same (rPut_ok 1 res (by omega) (by omega)) ?_
 simp only [p4, p1, List.length_append, go_sem]
 repeat refine sd2 ?_
 exact PostF.same (p := True) (.inr rfl) (by simp only [resVal, resVals, resVal1, one, go_sem]) trivial (by simp [Tx.nf, nfl]) (by simp [UpdAll])
theorem xPutReset1_ok {F : SF} {L nx : Nat} (num last : Nat) (res : Int) (xs : List Nat) (h1 : num < 2 ^ 32) (h2 : last < 2 ^ 32) (h3 : ∀ x ∈ xs, x < 65536) (hlen : xs.length ≤ 1000) : Con Tryz.prog 40 [rstP 1 num last res (.fs 1 (xs.map eN))] F L nx nx (.agg [.int .i64 130, .int .i64 0, .str (putB 1 1 ++ putB 4 num ++ putB 4 last ++ xs.flatMap (putB 2))]) [] [] := by
 refine bdy Tryz.f40 ?_
 intro F3 hF1 hF2
 have f0 : ((1 : Int) == 2) = false := rfl
 have p4 : ∀ (v : Nat), (putB 4 v).length = 4 := putB_len 4
 have p1 : ∀ (v : Nat), (putB 1 v).length = 1 := putB_len 1
 have p2 : ∀ (v : Nat), (putB 2 v).length = 2 := putB_len 2
 simp only [Tryz.f40, cx, rstP, Nat.add_zero, go_sem, meths]
 repeat refine sd2 ?_
 refine CallVC.same (rPut_ok 1 1 (by omega) (by omega)) ?_
 simp only [go_sem]
 repeat refine sd2 ?_
 refine CallVC.same (rPut_ok 4 num (by omega) (by omega)) ?_
 simp only [f0, p4, p1, Nat.add_zero, go_sem]
 repeat refine sd2 ?_
 refine ⟨okDyn_num (fun x => x.i) (by kernel_rfl), ?_⟩
 repeat refine sd2 ?_
 refine CallVC.same (rPut_ok 4 last (by omega) (by omega)) ?_
 simp only [p4, p1, List.length_append, go_sem]
 repeat refine sd2 ?_
 obtain ⟨T, hT⟩ : ∃ T : Nat → List UInt8, T = fun i => putB 1 1 ++ putB 4 num ++ putB 4 last ++ (xs.take i).flatMap (putB 2) := ⟨_, rfl⟩
 have hT0 : T 0 = putB 1 1 ++ putB 4 num ++ putB 4 last := by rw [hT]; simp
 have hTl : ∀ i, (T i).length ≤ 9 + 2 * xs.length := by
  intro i
  have e : ∀ l : List Nat, (l.flatMap (putB 2)).length = 2 * l.length := by
   intro l
   induction l with
   | nil => rfl
   | cons a l ih => rw [List.flatMap_cons, List.length_append, ih, p2, List.length_cons]; omega
  rw [hT]
  simp only [List.length_append, p4, p1, e, List.length_take]
  omega
 refine loopK.intro _ _ (I := fun i : Nat => ⟨[none, some (.ptr ⟨L + 1, 0⟩ 0 0), some (.ptr ⟨L + 1, 32⟩ 0 0), some (.str (T i)), some (.int .i64 i), none, none, none, none, none, none, none, none, none, none, none, none, none, none, none, none, none, none, none, none, none, none, none, none, none, none, none, none, none, none, none, none, none, none, none, none, none, none],
  [(⟨L + 1, 0⟩, .rows 61 5 true true [[.int .i64 1, .int .i64 num, .int .i64 last, .int .i64 res, .fs 1 (xs.map eN)]]), (⟨L + 1, 32⟩, .rows 34 3 true true [[.int .i64 0, .int .i64 0, .str []]])], 10000 * (i + 1)⟩) (pre := fun i => i ≤ xs.length) (μ := fun i => xs.length - i) 0 (by omega) ?_ ?_
 ·refine Sub.of (hfz hF2) (by simp only [hT0, go_sem, subT, and_self, Int.natCast_zero]; try trivial) ?_ (by simp [subK, keys]) (by simp)
  simp [subH, Tx.look]
 ·intro i hi
  have hl := hTl i
  by_cases hlt : i < xs.length
  ·have f1 : decide ((i : Int) < (xs.length : Int)) = true := dT (by omega)
   obtain ⟨k, hk⟩ : ∃ k, k = xs[i] := ⟨_, rfl⟩
   have r0 : (xs.map eN).getD i [] = [.int .i64 (k : Int)] := by rw [hk]; simp [eN, hlt, List.getD_eq_getElem?_getD]
   have hkb := h3 k (by rw [hk]; exact List.getElem_mem hlt)
   have hTs : T (i + 1) = T i ++ putB 2 k := by
    rw [hT]
    simp only
    rw [List.take_succ_eq_append_getElem hlt, List.flatMap_append, ← hk]
    simp
   simp only [f1, r0, Int.toNat_natCast, List.length_map, Nat.add_assoc, go_sem]
   repeat refine sd2 ?_
   refine CallVC.same (rPut_ok 2 k (by omega) (by omega)) ?_
   simp only [p2, Nat.add_assoc, go_sem]
   repeat refine sd2 ?_
   refine ⟨i + 1, by omega, by omega, Sub.of (hfz hF2) (by simp only [hTs, go_sem, subT, and_self, Int.natCast_succ]; try trivial) ?_ (by simp [subK, keys]) (by simp only []; omega)⟩
   simp [subH, Tx.look]
  ·have f1 : decide ((i : Int) < (xs.length : Int)) = false := dF (by omega)
   have hin : i = xs.length := by omega
   subst hin
   have hTe : T xs.length = putB 1 1 ++ putB 4 num ++ putB 4 last ++ xs.flatMap (putB 2) := by rw [hT]; simp
   rw [← hTe]
   simp only [f1, List.length_map, Nat.add_assoc, go_sem]
   repeat refine sd2 ?_
   exact PostF.same (p := True) (.inr rfl) (by simp only [resVal, resVals, resVal1, one, go_sem]) trivial (by simp [Tx.nf, nfl]) (by simp [UpdAll])
end Go.Proofs.YtaacfnngodhecaaGreatDoor
end
