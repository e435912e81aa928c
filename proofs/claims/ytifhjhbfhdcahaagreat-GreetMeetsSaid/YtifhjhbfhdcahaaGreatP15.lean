/- Lemmas for the walk: GK75, GK76, GK77, GD35, GK79, GK78, GK80. -/
import Derived.Test.YtifhjhbfhdcahaaGreatP14
import Derived.Test.YtifhjhbfhdcahaaGreatP13
import Derived.Test.YtifhjhbfhdcahaaGreatP11
import Derived.Test.YtifhjhbfhdcahaaGreatP12
set_option linter.all false
section
namespace Go.Proofs.YtifhjhbfhdcahaaGreat
open Go.Tx
set_option maxRecDepth 100000
set_option maxHeartbeats 16000000
def wA (l : List Nat) (N n : Nat) : List PV := (List.range N).map fun i => .int .u32 ((if i < n then l.getD i 0 else 0 : Nat) : Int)
theorem wA_len (l : List Nat) (N n : Nat) : (wA l N n).length = N := by simp [wA]
theorem wA_set (l : List Nat) (N n v : Nat) (hn : n < N) (hv : v = l.getD n 0) : (wA l N n).take n ++ [.int .u32 v] ++ (wA l N n).drop (n + 1) = wA l N (n + 1) := by
 have h : (wA l N n).set n (.int .u32 v) = wA l N (n + 1) := by
  apply List.ext_getElem (by simp only [List.length_set, wA_len])
  intro k h1 h2
  rw [List.getElem_set]
  simp only [wA, List.getElem_map, List.getElem_range]
  split
  ·subst_vars; simp
  ·have e : (k < n) = (k < n + 1) := by apply propext; omega
   simp only [e]
 rw [← h, List.set_eq_take_append_cons_drop, if_pos (by rw [wA_len]; exact hn)]
 simp
theorem wA_zero (l : List Nat) (N : Nat) : wA l N 0 = List.replicate N (.int .u32 0) := by
 apply List.ext_getElem (by simp [wA])
 intro k h1 h2
 simp [wA]
theorem wA_over (l : List Nat) (N n : Nat) (h : N ≤ n) : wA l N n = wA l N N := by
 apply List.ext_getElem (by simp only [wA_len])
 intro k h1 h2
 have : k < N := by rw [wA_len] at h1; exact h1
 simp [wA, this, show k < n by omega]
def eW (w : Nat) : PV := .int .u32 w
theorem wA_all (l : List Nat) (N : Nat) (h : l.length = N) : wA l N N = l.map eW := by
 apply List.ext_getElem (by simp [wA, h])
 intro k h1 h2
 have hk : k < N := by rw [wA_len] at h1; exact h1
 simp [wA, hk, eW, List.getD_eq_getElem?_getD, show k < l.length by omega]
theorem wA_nf (l : List Nat) (N n : Nat) : nfl (wA l N n) = true := by
 unfold wA
 generalize List.range N = r
 induction r with
 | nil => rfl
 | cons a r ih =>
  rw [List.map_cons]
  simp only [nfl, Tx.nf, Bool.true_and]
  exact ih
theorem constants_ok {F : SF} {L nx : Nat} : Con Tryz.prog 143 [] F L nx nx (.tup [.agg (hT.map eW), .agg (kT.map eW)]) [] [] := by
 rw [kC_eq, hC_eq]
 refine bdy Tryz.f143 ?_
 intro F3 hF1 hF2
 simp only [Tryz.f143, cx, go_sem, meths]
 repeat refine sd2 ?_
 refine loopK.intro _ _ (I := fun z : Nat × Nat => ⟨[some (.ptr ⟨L + 1, 0⟩ 0 0), some (.ptr ⟨L + 1, 32⟩ 0 0), some (.int .i64 (cnt z.1)), some (.ptr ⟨L + 1, z.2⟩ 0 0)] ++ oz 37,
  [(⟨L + 1, 0⟩, .rows 219 8 true true [wA hC 8 (cnt z.1)]), (⟨L + 1, 32⟩, .rows 220 64 true true [wA kC 64 (cnt z.1)]), (⟨L + 1, z.2⟩, .rows 143 1 true true [[.int .u64 z.1]])], 10000 * (100 * z.1 + 1)⟩)
  (pre := fun z => 2 ≤ z.1 ∧ z.1 ≤ 312 ∧ 96 ≤ z.2 ∧ z.2 < 10000 * (100 * z.1 + 1)) (μ := fun z => 312 - z.1) (2, 96) ⟨by simp, by simp, by simp, by simp⟩ ?_ ?_
 ·refine Sub.of (hfz hF2) (by simp only [cnt_two, go_sem, subT, and_self]; try trivial) ?_ (by simp [subK, keys]) (by simp)
  simp only [subH, Tx.look, cnt_two, wA_zero, nm_eq, if_true, if_false, and_true, List.replicate, go_sem]
  try simp
 rintro ⟨p, q⟩ ⟨hp2, hp3, hq1, hq2⟩
 simp only at hp2 hp3 hq1 hq2 ⊢
 obtain ⟨i, hi⟩ : ∃ i, i = 100 * p := ⟨_, rfl⟩
 rw [← hi] at hq2 ⊢
 have hl1 := wA_len hC 8 (cnt p)
 have hl2 := wA_len kC 64 (cnt p)
 have q_0 : (q = 0) = False := by apply eq_false; omega
 have n0_q : (0 = q) = False := by apply eq_false; omega
 have q_32 : (q = 32) = False := by apply eq_false; omega
 have n32_q : (32 = q) = False := by apply eq_false; omega
 obtain ⟨q_n1, q_n2, q_n3, q_n4, q_n5⟩ := nqL L (i := i) (p := q) (by omega)
 by_cases hlt : p < 312
 ·obtain ⟨hc1, hc2, hc3⟩ := cnt_succ hp2 hlt
  have g1 : decide (((cnt p : Nat) : Int) < 64) = true := dT (by omega)
  simp only [g1, Nat.add_assoc, go_sem]
  repeat refine sd2 ?_
  refine loopK.intro _ _ (I := fun d : Nat => ⟨[some (.ptr ⟨L + 1, 0⟩ 0 0), some (.ptr ⟨L + 1, 32⟩ 0 0), some (.int .i64 (cnt p)), some (.ptr ⟨L + 1, q⟩ 0 0), some (.bool (flg p d)), some (.int .u64 d)] ++ oz 35,
   [(⟨L + 1, 0⟩, .rows 219 8 true true [wA hC 8 (cnt p)]), (⟨L + 1, 32⟩, .rows 220 64 true true [wA kC 64 (cnt p)]), (⟨L + 1, q⟩, .rows 143 1 true true [[.int .u64 p]])], 10000 * (i + d)⟩)
   (pre := fun d => 2 ≤ d ∧ ((d - 1) * (d - 1) ≤ p ∨ d = 2) ∧ d ≤ 30) (μ := fun d => 400 - d) 2 ⟨by omega, by omega, by omega⟩ ?_ ?_
  ·have hf2 : flg p 2 = true := by simp [flg, List.range, List.range.loop]
   refine Sub.of (hfz hF2) (by simp only [hf2, go_sem, subT]; try trivial) ?_ (by simp [subK, keys]) (by simp only []; omega)
   simp [subH, Tx.look, q_0, q_32]
  rintro d ⟨hd1, hd2, hd3⟩
  have e1 : IntKind.u64.wrap ((d : Int) * (d : Int)) = ((d * d : Nat) : Int) := by
   have : d * d ≤ 30 * 30 := Nat.mul_le_mul hd3 hd3
   rw [← Int.natCast_mul, wu64, Nat.mod_eq_of_lt (by omega)]
  by_cases hdd : d * d ≤ p
  ·have hd20 : d ≤ 18 := by
    apply Classical.byContradiction
    intro h6
    have : 19 * 19 ≤ d * d := Nat.mul_le_mul (by omega) (by omega)
    omega
   have g2 : decide (((d * d : Nat) : Int) ≤ (p : Int)) = true := dT (by omega)
   have e2 : ((p : Int)).tmod (d : Int) = ((p % d : Nat) : Int) := by
    rw [Int.tmod_eq_emod_of_nonneg (by omega)]; rfl
   have e3 : (((p % d : Nat) : Int) != 0) = (p % d != 0) := by
    generalize p % d = m
    cases m with
    | zero => rfl
    | succ m => simp; omega
   have e4 : IntKind.u64.wrap ((d : Int) + 1) = ((d + 1 : Nat) : Int) := by
    have : (d : Int) + 1 = ((d + 1 : Nat) : Int) := by omega
    rw [this, wu64, Nat.mod_eq_of_lt (by omega)]
   have hs := flg_succ p d hd1
   cases hf : flg p d with
   | true =>
    rw [hf, Bool.true_and] at hs
    simp only [e1, g2, e2, e3, e4, q_0, q_32, Nat.add_assoc, go_sem]
    repeat refine sd2 ?_
    refine ⟨d + 1, ⟨by omega, .inl (by rw [Nat.add_sub_cancel]; exact hdd), by omega⟩, by omega, ?_⟩
    rw [hs]
    refine Sub.of (hfz hF2) (by simp only [go_sem, subT, and_self]; try trivial) ?_ (by simp [subK, keys]) (by simp only []; omega)
    simp [subH, Tx.look, q_0, q_32]
   | false =>
    rw [hf, Bool.false_and] at hs
    simp only [e1, g2, e4, q_0, q_32, Nat.add_assoc, go_sem]
    repeat refine sd2 ?_
    refine ⟨d + 1, ⟨by omega, .inl (by rw [Nat.add_sub_cancel]; exact hdd), by omega⟩, by omega, ?_⟩
    rw [hs]
    refine Sub.of (hfz hF2) (by simp only [go_sem, subT, and_self]; try trivial) ?_ (by simp [subK, keys]) (by simp only []; omega)
    simp [subH, Tx.look, q_0, q_32]
  ·have g2 : decide (((d * d : Nat) : Int) ≤ (p : Int)) = false := dF (by omega)
   have hfe := flg_end hp2 hlt hd1 hd2 (by omega)
   rw [hfe]
   obtain ⟨i, hi9⟩ : ∃ j, j + 1 = i + d := ⟨i + d - 1, by omega⟩
   rw [← hi9]
   have hq3 : q < 10000 * (i + 1) := by omega
   have q_0 : (q = 0) = False := by apply eq_false; omega
   have n0_q : (0 = q) = False := by apply eq_false; omega
   have q_32 : (q = 32) = False := by apply eq_false; omega
   have n32_q : (32 = q) = False := by apply eq_false; omega
   obtain ⟨q_n1, q_n2, q_n3, q_n4, q_n5⟩ := nqL L (i := i) (p := q) (by omega)
   have e5 : IntKind.u64.wrap ((p : Int) + 1) = ((p + 1 : Nat) : Int) := by
    have : (p : Int) + 1 = ((p + 1 : Nat) : Int) := by omega
    rw [this, wu64, Nat.mod_eq_of_lt (by omega)]
   cases hcp : pz.contains p with
   | false =>
    rw [hcp, if_neg (by simp)] at hc1
    simp only [e1, g2, e5, q_0, n0_q, q_32, n32_q, q_n1, kS2, Nat.add_assoc, go_sem]
    repeat refine sd2 ?_
    refine ⟨(p + 1, 10000 * (i + 1) + 256), ⟨by simp only []; omega, by simp only []; omega, by simp only []; omega, by simp only []; omega⟩, by simp only []; omega, ?_⟩
    simp only [hc1]
    refine Sub.of (hfz hF2) (by simp only [go_sem, subT, and_self]; try trivial) ?_ (by simp [subK, keys]) (by simp only []; omega)
    simp [subH, Tx.look, q_n1]
   | true =>
    rw [hcp, if_pos rfl] at hc1
    have hk := kC_at hp2 hlt hcp
    have hw := wA_set kC 64 (cnt p) _ (by omega) hk.symm
    have f1 : ∀ (F : SF) (L2 nx2 : Nat), L + 1 ≤ L2 → F ⟨L + 1, q⟩ = some (.rows 143 1 true true [[.int .u64 p]]) → Con Tryz.prog 147 [.fn (.func 148) [] [.ptr ⟨L + 1, q⟩ 0 0]] F L2 nx2 nx2 (.int .u32 ((greS (enK p) 0 37 % M32 : Nat) : Int)) [] [⟨L + 1, q⟩] := fun F L2 nx2 hL hF =>
     frac_ok 148 [.ptr ⟨L + 1, q⟩ 0 0] (enK p) [⟨L + 1, q⟩] (by simpa using hL) fun x hx L' nx' hL' => const1_ok ⟨L + 1, q⟩ (by show L + 1 ≤ L'; omega) true true x p hx (by omega) hF
    have f2 : ∀ (F : SF) (L2 nx2 : Nat), L + 1 ≤ L2 → F ⟨L + 1, q⟩ = some (.rows 143 1 true true [[.int .u64 p]]) → Con Tryz.prog 147 [.fn (.func 149) [] [.ptr ⟨L + 1, q⟩ 0 0]] F L2 nx2 nx2 (.int .u32 ((greS (enH p) 0 37 % M32 : Nat) : Int)) [] [⟨L + 1, q⟩] := fun F L2 nx2 hL hF =>
     frac_ok 149 [.ptr ⟨L + 1, q⟩ 0 0] (enH p) [⟨L + 1, q⟩] (by simpa using hL) fun x hx L' nx' hL' => const2_ok ⟨L + 1, q⟩ (by show L + 1 ≤ L'; omega) true true x p hx (by omega) hF
    obtain ⟨u, hu⟩ : ∃ u, u = greS (enK p) 0 37 % M32 := ⟨_, rfl⟩
    rw [← hu] at hw f1
    simp only [e1, g2, e5, q_0, n0_q, q_32, n32_q, q_n1, kS2, Nat.add_assoc, go_sem]
    repeat refine sd2 ?_
    refine CallVC.same (f1 _ _ _ (by omega) (by simp [q_0, q_32])) ?_
    by_cases h8 : cnt p < 8
    ·have g8 : decide (((cnt p : Nat) : Int) < 8) = true := dT (by omega)
     have hk8 := hC_at hp2 hlt hcp h8
     have hw8 := wA_set hC 8 (cnt p) _ h8 hk8.symm
     obtain ⟨v, hv⟩ : ∃ v, v = greS (enH p) 0 37 % M32 := ⟨_, rfl⟩
     rw [← hv] at hw8 f2
     simp only [hw, g8, Int.toNat_natCast, Nat.mul_one, n32_q, Nat.add_assoc, go_sem]
     repeat refine sd2 ?_
     refine CallVC.same (f2 _ _ _ (by omega) (by simp [q_0, q_32])) ?_
     simp only [hw8, e5, Int.toNat_natCast, Nat.mul_one, q_0, n0_q, q_32, q_n1, kS2, Nat.add_assoc, go_sem]
     repeat refine sd2 ?_
     refine ⟨(p + 1, 10000 * (i + 1) + 672), ⟨by simp only []; omega, by simp only []; omega, by simp only []; omega, by simp only []; omega⟩, by simp only []; omega, ?_⟩
     simp only [hc1]
     refine Sub.of (hfz hF2) (by simp only [go_sem, subT, and_self, Int.natCast_succ]; try trivial) ?_ (by simp [subK, keys]) (by simp only []; omega)
     simp [subH, Tx.look, q_n1]
    ·have g8 : decide (((cnt p : Nat) : Int) < 8) = false := dF (by omega)
     simp only [hw, g8, e5, Int.toNat_natCast, Nat.mul_one, q_0, q_32, n32_q, q_n1, kS2, Nat.add_assoc, go_sem]
     repeat refine sd2 ?_
     have ho : wA hC 8 (cnt p + 1) = wA hC 8 (cnt p) := by rw [wA_over _ _ _ (show 8 ≤ cnt p + 1 by omega), wA_over _ _ (cnt p) (by omega)]
     refine ⟨(p + 1, 10000 * (i + 1) + 544), ⟨by simp only []; omega, by simp only []; omega, by simp only []; omega, by simp only []; omega⟩, by simp only []; omega, ?_⟩
     simp only [hc1, ho]
     refine Sub.of (hfz hF2) (by simp only [go_sem, subT, and_self, Int.natCast_succ]; try trivial) ?_ (by simp [subK, keys]) (by simp only []; omega)
     simp [subH, Tx.look, q_n1]
 ·obtain rfl : p = 312 := by omega
  have g1 : decide (((cnt 312 : Nat) : Int) < 64) = false := by rw [cnt_end]; rfl
  have n8 := wA_nf hC 8 (cnt 312)
  have n64 := wA_nf kC 64 (cnt 312)
  have v8 : wA hC 8 (cnt 312) = hC.map eW := by rw [cnt_end, wA_over _ _ _ (by omega), wA_all _ _ hC_len]
  have v64 : wA kC 64 (cnt 312) = kC.map eW := by rw [cnt_end, wA_all _ _ kC_len]
  simp only [g1, hl1, hl2, n8, n64, n0_q, n32_q, Nat.add_assoc, go_sem]
  repeat refine sd2 ?_
  refine ⟨okDyn_num (fun x => x.i) (by kernel_rfl), ?_⟩
  rw [← v8, ← v64]
  have r8 : List.drop 8 (wA hC 8 (cnt 312)) = [] := List.drop_of_length_le (by omega)
  have r64 : List.drop 64 (wA kC 64 (cnt 312)) = [] := List.drop_of_length_le (by omega)
  exact PostF.same (p := True) (.inr rfl) (by simp only [r8, r64, resVal, resVals, resVal1, one, go_sem]) trivial (by simp only [Tx.nf, nfl, n8, n64, Bool.and_self]) (by simp [UpdAll])
theorem eW_nf (l : List Nat) : nfl (l.map eW) = true := by
 induction l with
 | nil => rfl
 | cons a r ih => rw [List.map_cons]; simp only [nfl, eW, Tx.nf, Bool.true_and]; exact ih
theorem nfl_app (a b : List PV) : nfl (a ++ b) = (nfl a && nfl b) := by
 induction a with
 | nil => rfl
 | cons x a ih => rw [List.cons_append]; simp only [nfl, ih, Bool.and_assoc]
theorem made_ok {F : SF} {L nx : Nat} : Con Tryz.prog 128 [] F L nx nx (.agg (hT.map eW ++ kT.map eW)) [] [] := by
 have hc := fun F L nx => constants_ok (F := F) (L := L) (nx := nx)
 have l8 : (hT.map eW).length = 8 := by rw [List.length_map]; rfl
 have l64 : (kT.map eW).length = 64 := by rw [List.length_map]; rfl
 have n8 := eW_nf hT
 have n64 := eW_nf kT
 generalize hT.map eW = h at *
 generalize kT.map eW = k at *
 refine bdy Tryz.f128 ?_
 intro F3 hF1 hF2
 simp only [Tryz.f128, cx, go_sem, meths]
 refine CallVC.same (hc _ _ _) ?_
 simp only [l8, l64, n8, n64, go_sem]
 repeat refine sd2 ?_
 generalize hy : ([.int .u32 0, .int .u32 0, .int .u32 0, .int .u32 0, .int .u32 0, .int .u32 0, .int .u32 0, .int .u32 0, .int .u32 0, .int .u32 0, .int .u32 0, .int .u32 0, .int .u32 0, .int .u32 0, .int .u32 0, .int .u32 0, .int .u32 0, .int .u32 0, .int .u32 0, .int .u32 0, .int .u32 0, .int .u32 0, .int .u32 0, .int .u32 0, .int .u32 0, .int .u32 0, .int .u32 0, .int .u32 0, .int .u32 0, .int .u32 0, .int .u32 0, .int .u32 0, .int .u32 0, .int .u32 0, .int .u32 0, .int .u32 0, .int .u32 0, .int .u32 0, .int .u32 0, .int .u32 0, .int .u32 0, .int .u32 0, .int .u32 0, .int .u32 0, .int .u32 0, .int .u32 0, .int .u32 0, .int .u32 0, .int .u32 0, .int .u32 0, .int .u32 0, .int .u32 0, .int .u32 0, .int .u32 0, .int .u32 0, .int .u32 0, .int .u32 0, .int .u32 0, .int .u32 0, .int .u32 0, .int .u32 0, .int .u32 0, .int .u32 0, .int .u32 0, .int .u32 0, .int .u32 0, .int .u32 0, .int .u32 0, .int .u32 0, .int .u32 0, .int .u32 0, .int .u32 0] : List PV) = y
 have ly : y.length = 72 := by rw [← hy]; rfl
 generalize hz : ([.int .u32 0, .int .u32 0, .int .u32 0, .int .u32 0, .int .u32 0, .int .u32 0, .int .u32 0, .int .u32 0, .int .u32 0, .int .u32 0, .int .u32 0, .int .u32 0, .int .u32 0, .int .u32 0, .int .u32 0, .int .u32 0, .int .u32 0, .int .u32 0, .int .u32 0, .int .u32 0, .int .u32 0, .int .u32 0, .int .u32 0, .int .u32 0, .int .u32 0, .int .u32 0, .int .u32 0, .int .u32 0, .int .u32 0, .int .u32 0, .int .u32 0, .int .u32 0, .int .u32 0, .int .u32 0, .int .u32 0, .int .u32 0, .int .u32 0, .int .u32 0, .int .u32 0, .int .u32 0, .int .u32 0, .int .u32 0, .int .u32 0, .int .u32 0, .int .u32 0, .int .u32 0, .int .u32 0, .int .u32 0, .int .u32 0, .int .u32 0, .int .u32 0, .int .u32 0, .int .u32 0, .int .u32 0, .int .u32 0, .int .u32 0, .int .u32 0, .int .u32 0, .int .u32 0, .int .u32 0, .int .u32 0, .int .u32 0, .int .u32 0, .int .u32 0] : List PV) = z
 have lz : z.length = 64 := by rw [← hz]; rfl
 have e1 : List.take 8 (h ++ z) = h := by rw [List.take_append_of_le_length (by omega), List.take_of_length_le (by omega)]
 have e2 : List.drop 72 (h ++ z) = [] := List.drop_of_length_le (by rw [List.length_append]; omega)
 have e3 : (h ++ k).length = 72 := by rw [List.length_append]; omega
 have e4 : List.drop 72 y = [] := List.drop_of_length_le (by omega)
 have e5 : nfl (h ++ k) = true := by rw [nfl_app, n8, n64]; rfl
 have e6 : List.take 8 (h ++ k) = h := by rw [List.take_append_of_le_length (by omega), List.take_of_length_le (by omega)]
 have e7 : List.drop 8 (h ++ k) = k := by rw [List.drop_append_of_le_length (by omega), List.drop_of_length_le (by omega), List.nil_append]
 have e8 : List.take 64 k = k := List.take_of_length_le (by omega)
 simp only [e1, e2, List.append_nil, e3, e4, e5]
 refine ⟨by rw [List.length_append]; omega, trivial, ?_⟩
 exact PostF.same (p := True) (.inr rfl) (by simp only [resVal, resVals, resVal1, one, go_sem]) trivial (by simp only [Tx.nf, e5]) (by simp [UpdAll])
theorem long_ok {F : SF} {L nx : Nat} (n : Nm) (hn : n.l ≤ L) (o p : Bool) (l : List (List UInt8)) (hl : l.length ≤ 1000000) (hs : ∀ s ∈ l, s.length ≤ 4096) (hF : F n = some (.rows 9 1 o p (l.map fun s => [.str s]))) : Con Tryz.prog 127 [.sl n 0 l.length] F L nx nx (.bool false) [] [n] := by
 refine bdy Tryz.f127 (hrd := (by simp; omega)) ?_
 intro F3 hF1 hF2
 simp only [Tryz.f127, cx, go_sem, meths]
 repeat refine sd2 ?_
 have hFn : F3 n = some (.rows 9 1 o p (l.map fun s => [.str s])) := (hF1 n (by simp)).trans hF
 refine loopK.intro _ _ (I := fun i : Nat => ⟨[some (.sl n 0 l.length), none, some (.bool false), none, none, some (.sl n 0 l.length), some (.int .i64 l.length), some (.int .i64 i)] ++ oz 7, [], 10000 * (i + 1)⟩) (pre := fun i => i ≤ l.length) (μ := fun i => l.length - i) 0 (by omega) ?_ ?_
 ·refine Sub.of (hfz hF2) (by simp only [go_sem, subT]; try trivial) ?_ (by simp [subK]) (by simp)
  simp [subH]
 intro i hi
 by_cases hlt : i < l.length
 ·have g1 : decide ((i : Int) < (l.length : Int)) = true := dT (by omega)
  have hget : ((l.map fun s => [PV.str s]).getD i []).getD 0 (.tup []) = .str l[i] := by simp [hlt, List.getD_eq_getElem?_getD]
  have hll : (l.map fun s => [PV.str s]).length = l.length := List.length_map ..
  have hsi := hs l[i] (List.getElem_mem hlt)
  have g2 : decide (((l[i].length : Nat) : Int) > 4096) = false := dF (by omega)
  have g2' : decide ((4096 : Int) < ((l[i].length : Nat) : Int)) = false := dF (by omega)
  simp only [g1, g2, hFn, hget, hll, Int.toNat_natCast, Nat.add_assoc, go_sem]
  repeat refine sd2 ?_
  refine ⟨i + 1, by omega, by omega, ?_⟩
  refine Sub.of (hfz hF2) (by simp only [go_sem, subT, and_self, Int.natCast_succ]; try trivial) ?_ (by simp [subK]) (by simp only []; omega)
  simp [subH]
 ·obtain rfl : i = l.length := by omega
  have g1 : decide ((l.length : Int) < (l.length : Int)) = false := dF (by omega)
  simp only [g1, Nat.add_assoc, go_sem]
  exact .bool (.inr rfl) rfl rfl (by simp [UpdAll])
theorem slClone_ok {F : SF} {L nx : Nat} (s : List UInt8) (hs : s.length ≤ 1000000) : Con Tryz.prog 165 [.str s] F L nx nx (.str s) [] [] := by
 cases s with
 | nil =>
  have e1 : (((0 : Nat) : Int) == 0) = true := rfl
  refine bdy Tryz.f165 ?_
  intro F3 hF1 hF2
  simp only [Tryz.f165, cx, e1, go_sem, meths]
  repeat refine sd2 ?_
  exact PostF.same (p := True) (.inr rfl) (by simp only [resVal, resVals, resVal1, one, go_sem]) trivial (by simp only [Tx.nf]) (by simp [UpdAll])
 | cons a s =>
  have e1 : (((a :: s).length : Int) == 0) = false := by simp; omega
  have e2 : List.take (a :: s).length (List.map (fun b : UInt8 => [PV.int .u8 ((b.toNat : Nat) : Int)]) (a :: s) ++ List.drop (List.map (fun b : UInt8 => [PV.int .u8 ((b.toNat : Nat) : Int)]) (a :: s)).length (List.replicate (a :: s).length [PV.int .u8 0])) = List.map rowB (a :: s) := by
   rw [List.drop_of_length_le (by simp), List.append_nil, List.take_of_length_le (by simp)]; rfl
  have e3 := rowB_bytes (a :: s)
  refine bdy Tryz.f165 ?_
  intro F3 hF1 hF2
  have hl : (a :: s).length ≤ 1000000 := hs
  have h0 : 0 < (a :: s).length := by simp
  generalize (a :: s) = s at *
  simp only [Tryz.f165, cx, e1, e2, e3, Nat.add_zero, go_sem, meths]
  repeat refine sd2 ?_
  refine ⟨⟨by simp, by simp⟩, ⟨by omega, by omega⟩, ⟨by omega, by simp⟩, ?_⟩
  exact PostF.same (p := True) (.inr rfl) (by simp only [resVal, resVals, resVal1, one, go_sem]) trivial (by simp only [Tx.nf]) (by simp [UpdAll])
theorem sClone_ok {F : SF} {L nx : Nat} (s : List UInt8) (hs : s.length ≤ 1000000) : Con Tryz.prog 162 [.str s] F L nx nx (.str s) [] [] := by
 have h := fun F L nx => slClone_ok (F := F) (L := L) (nx := nx) s hs
 refine bdy Tryz.f162 ?_
 intro F3 hF1 hF2
 simp only [Tryz.f162, cx, go_sem, meths]
 refine CallVC.same (h _ _ _) ?_
 simp only [go_sem]
 exact PostF.same (p := True) (.inr rfl) (by simp only [resVal, resVals, resVal1, one, go_sem]) trivial (by simp only [Tx.nf]) (by simp [UpdAll])
theorem blocks_ok {F : SF} {L nx : Nat} (s : List UInt8) : Con Tryz.prog 163 [.str s] F L nx (nx + 1) (.fn (.func 166) [] [.ptr ⟨L, nx⟩ 0 0]) [(⟨L, nx⟩, .rows 9 1 true true [[.str s]])] [] := by
 refine bdyN Tryz.f163 ?_
 intro F3 hF1 hF2
 simp only [Tryz.f163, cx, go_sem, meths]
 refine .now (PostN.val [0] (.inr rfl) (by simp) (p := True) (v0 := .fn (.func 166) [] [.ptr ⟨L + 1, 0⟩ 0 0]) ?_ trivial ?_ ?_ ⟨Nat.le_refl _, ?_, trivial⟩ ?_)
 ·simp only [resVal, resVals, resVal1, one, go_sem]
 ·simp [nmA, nmAL, Dn]
 ·simp [Tx.rn, Tx.rnL, sg, List.idxOf, List.findIdx, List.findIdx.go]
 ·rw [kp_at0 (by simp)]
  exact .pure (by simp [Tx.look])
 ·simp [UpdAll, keys]
noncomputable def cxb (L : Nat) (y : YRec) : Cx := ⟨Tryz.prog, tys, meths, false, L, none, [y], [], false, [], fun _ => False⟩
theorem cxbOk (L : Nat) (y : YRec) : (cxb L y).Ok := ⟨tysOk, fieldsOk, mixedOk, methsOk⟩
def blkD (s : List UInt8) (i : Nat) : List UInt8 := (s.drop (64 * i)).take 64
theorem blocks1_ok {F : SF} {L nx : Nat} (s : List UInt8) (hl : s.length ≤ 1000000) (n h : Nm) (hn : n.l ≤ L) (hnx : n.l < L ∨ (n.l = L ∧ n.i < nx)) (hh : h.l ≤ L) (hhx : h.l < L ∨ (h.l = L ∧ h.i < nx)) (hnh : n ≠ h) (o : Bool) (hFn : F n = some (.rows 9 1 true true [[.str s]]))
  (eb : TypeId) (wd : Nat) (RB : Nat → List (List PV)) (hFh : F h = some (.rows eb wd true true (RB 0))) (rd : List Nm) (hrd : ∀ m ∈ rd, m.l ≤ L ∧ m ≠ n ∧ m ≠ h)
  (N : Nat) (hN : N = s.length / 64) (y : YRec)
  (hy : ∀ (F3 : SF) (i nx3 : Nat), i < N → F3 h = some (.rows eb wd true true (RB i)) → (∀ m ∈ rd, F3 m = F m) →
   YCon Tryz.prog y [.str (blkD s i)] F3 (L + 1) nx3 nx3 (.bool true) [(h, .rows eb wd true true (RB (i + 1)))] (h :: rd)) :
  ICon Tryz.prog [y] 166 [.fn (.yield y.l) [] [], .ptr n 0 0] F L nx (nx + 0) (.tup []) [(n, .rows 9 1 true true [[.str (s.drop (64 * N))]]), (h, .rows eb wd true true (RB N))] (n :: h :: rd) := by
 refine ICon.bodyN (cxbOk (L + 1) y) rfl (fn := Tryz.f166) (c := Tryz.f166.body.getD .skip) (by kernel_rfl) (by rfl) (by kernel_rfl) rfl (by intro m hm; simp only [List.mem_cons] at hm; rcases hm with rfl | rfl | hm; exact hn; exact hh; exact (hrd m hm).1) ?_
 intro F3 hF1 hF2
 have kn : F3 n = some (.rows 9 1 true true [[.str s]]) := (hF1 n (by simp)).trans hFn
 have kh : F3 h = some (.rows eb wd true true (RB 0)) := (hF1 h (by simp)).trans hFh
 have n1 : ∀ k, (n = (⟨L + 1, k⟩ : Nm)) = False := nm_out hn
 have n2 : ∀ k, ((⟨L + 1, k⟩ : Nm) = n) = False := nm_out' hn
 have h1 : ∀ k, (h = (⟨L + 1, k⟩ : Nm)) = False := nm_out hh
 have h2 : ∀ k, ((⟨L + 1, k⟩ : Nm) = h) = False := nm_out' hh
 have e1 : (n = h) = False := eq_false hnh
 have e2 : (h = n) = False := eq_false (Ne.symm hnh)
 have e3 : ∀ (m : Nm) (b1 b2 : SBlk), m ∈ rd → Tx.look F3 [(n, b1), (h, b2)] m = F m := fun m b1 b2 hm => by
  obtain ⟨_, a, b⟩ := hrd m hm
  simp only [Tx.look, if_neg a, if_neg b]
  exact hF1 m (by simp [hm])
 simp only [Tryz.f166, cxb, go_sem, meths]
 refine loopK.intro _ _ (I := fun i : Nat => ⟨[some (.fn (.yield y.l) [] []), some (.ptr n 0 0)] ++ oz 11, [(n, .rows 9 1 true true [[.str (s.drop (64 * i))]]), (h, .rows eb wd true true (RB i))], 1000 * (i + 1)⟩)
  (pre := fun i => i ≤ N) (μ := fun i => N - i) 0 (by omega) ?_ ?_
 ·refine Sub.of (hfz hF2) (by simp only [go_sem, subT, and_self]; try trivial) ?_ (by simp [subK]) (by simp)
  simp [subH, Tx.look, kn, kh]
 intro i hi
 have hdl : (s.drop (64 * i)).length = s.length - 64 * i := List.length_drop ..
 by_cases hlt : i < N
 ·have g1 : decide (((s.drop (64 * i)).length : Int) ≥ 64) = true := dT (by omega)
  have g1' : decide ((64 : Int) ≤ ((s.drop (64 * i)).length : Int)) = true := dT (by omega)
  have t1 : List.take 64 (s.drop (64 * i)) = blkD s i := rfl
  have t2 : List.drop 64 (s.drop (64 * i)) = s.drop (64 * (i + 1)) := by rw [List.drop_drop]; congr 1
  have t3 : List.take ((s.drop (64 * i)).length - 64) (s.drop (64 * (i + 1))) = s.drop (64 * (i + 1)) := List.take_of_length_le (by rw [hdl, List.length_drop]; omega)
  simp only [g1, t1, e1, Nat.add_assoc, go_sem]
  repeat refine sd2 ?_
  refine YVC.one (hy _ i _ hlt (by simp [e2]) (fun m hm => e3 m _ _ hm)) ?_
  simp only [t2, t3, e1, e2, Nat.add_assoc, go_sem]
  repeat refine sd2 ?_
  refine ⟨i + 1, by omega, by omega, ?_⟩
  refine Sub.of (hfz hF2) (by simp only [go_sem, subT, and_self]; try trivial) ?_ (by simp [subK, keys]) (by simp only []; omega)
  simp only [subH, Tx.look, e1, e2, if_true, if_false, and_true]
 ·obtain rfl : i = N := by omega
  have g1 : decide (((s.drop (64 * i)).length : Int) ≥ 64) = false := dF (by omega)
  have g1' : decide ((64 : Int) ≤ ((s.drop (64 * i)).length : Int)) = false := dF (by omega)
  simp only [g1, e1, Nat.add_assoc, go_sem]
  repeat refine sd2 ?_
  refine .now (PostN.val [] (.inl rfl) (by simp) (p := True) (v0 := .tup []) ?_ trivial ?_ ?_ ⟨hn, ?_, hh, ?_, trivial⟩ ?_)
  ·simp only [resVal, resVals, one, go_sem]
  ·simp [nmA, nmAL]
  ·simp [Tx.rn, Tx.rnL]
  ·rw [kp_out (hnx.imp id fun h => .inl h.2)]
   exact .pure (by simp [Tx.look])
  ·rw [kp_out (hhx.imp id fun h => .inl h.2)]
   exact .pure (by simp [Tx.look, e2])
  ·simp [UpdAll, keys]
theorem wS_len (b : List UInt8) : ∀ t, (wS b t).length = t
 | 0 => rfl
 | t + 1 => by rw [wS, List.length_append, wS_len b t]; rfl
theorem wS_pre (b : List UInt8) {i : Nat} : ∀ {t : Nat}, i < t → (wS b t).getD i 0 = (wS b (i + 1)).getD i 0
 | t + 1, h => by
  by_cases e : i = t
  ·rw [e]
  ·rw [← wS_pre b (show i < t by omega), wS, List.getD_eq_getElem?_getD, List.getD_eq_getElem?_getD, List.getElem?_append_left (by rw [wS_len]; omega), ← List.getD_eq_getElem?_getD]
theorem wS_at (b : List UInt8) {n t : Nat} (ht : t < n) : (wS b n).getD t 0 = if t < 16 then getB ((b.drop (4 * t)).take 4) else ((wS b n).getD (t - 16) 0 + (wS b n).getD (t - 7) 0 + sg0 ((wS b n).getD (t - 15) 0) + sg1 ((wS b n).getD (t - 2) 0)) % M32 := by
 have hl : (wS b (t + 1)).getD t 0 = if t < 16 then getB ((b.drop (4 * t)).take 4) else ((wS b t).getD (t - 16) 0 + (wS b t).getD (t - 7) 0 + sg0 ((wS b t).getD (t - 15) 0) + sg1 ((wS b t).getD (t - 2) 0)) % M32 := by
  rw [wS, List.getD_eq_getElem?_getD, List.getElem?_append_right (by rw [wS_len]; omega), wS_len, Nat.sub_self]; rfl
 rw [wS_pre b ht, hl]
 by_cases h : t < 16
 ·rw [if_pos h, if_pos h]
 ·rw [if_neg h, if_neg h]
  rw [wS_pre b (i := t - 16) (t := n) (by omega), wS_pre b (i := t - 7) (t := n) (by omega), wS_pre b (i := t - 15) (t := n) (by omega), wS_pre b (i := t - 2) (t := n) (by omega),
   wS_pre b (i := t - 16) (t := t) (by omega), wS_pre b (i := t - 7) (t := t) (by omega), wS_pre b (i := t - 15) (t := t) (by omega), wS_pre b (i := t - 2) (t := t) (by omega)]
theorem wS_lt (b : List UInt8) (n i : Nat) : (wS b n).getD i 0 < M32 := by
 by_cases h : i < n
 ·rw [wS_at b h]
  split
  ·have := getB_lt ((b.drop (4 * i)).take 4)
   have h4 : ((b.drop (4 * i)).take 4).length ≤ 4 := by rw [List.length_take]; omega
   exact Nat.lt_of_lt_of_le this (Nat.le_trans (Nat.pow_le_pow_right (by omega) h4) (by decide))
  ·exact Nat.mod_lt _ (by decide)
 ·rw [List.getD_eq_getElem?_getD, List.getElem?_eq_none (by rw [wS_len]; omega)]; decide
def W8 (l : List Nat) : Prop := l.length = 8 ∧ ∀ i, l.getD i 0 < M32
theorem W8.cons {a b c d e f g h : Nat} (ha : a < M32) (hb : b < M32) (hc : c < M32) (hd : d < M32) (he : e < M32) (hf : f < M32) (hg : g < M32) (hh : h < M32) : W8 [a, b, c, d, e, f, g, h] := by
 refine ⟨rfl, fun i => ?_⟩
 rcases i with _ | _ | _ | _ | _ | _ | _ | _ | i
 all_goals simp only [List.getD_cons_zero, List.getD_cons_succ, List.getD_nil]
 all_goals first | assumption | decide
theorem mod_lt32 (x : Nat) : x % M32 < M32 := Nat.mod_lt _ (by decide)
theorem rdS_8 {v : List Nat} (h : W8 v) (k w : Nat) : W8 (rdS v k w) := W8.cons (mod_lt32 _) (h.2 0) (h.2 1) (h.2 2) (mod_lt32 _) (h.2 4) (h.2 5) (h.2 6)
theorem rdsS_8 {h : List Nat} (h8 : W8 h) (k w : List Nat) : ∀ t, W8 (rdsS k w h t)
 | 0 => h8
 | t + 1 => rdS_8 (rdsS_8 h8 k w t) _ _
theorem addS_8 (h v : List Nat) : W8 (addS h v) := by
 refine ⟨by simp [addS], fun i => ?_⟩
 by_cases hi : i < 8
 ·simp only [addS, List.getD_eq_getElem?_getD, List.getElem?_map, List.getElem?_range hi, Option.map_some, Option.getD_some]
  exact Nat.mod_lt _ (by decide)
 ·rw [List.getD_eq_getElem?_getD, List.getElem?_eq_none (by simp [addS]; omega)]; decide
theorem mixsS_8 {h : List Nat} (h8 : W8 h) (k : List Nat) (s : List UInt8) : ∀ i, W8 (mixsS k h s i)
 | 0 => h8
 | _ + 1 => addS_8 _ _
theorem xS {x y z : Nat} (hx : x < M32) (hy : y < M32) (hz : z < M32) : Sx.ibits .xor .u32 (Sx.ibits .xor .u32 (x : Int) (y : Int)) (z : Int) = ((x ^^^ y ^^^ z : Nat) : Int) := by
 rw [xor32' hx hy, xor32' (Nat.xor_lt_two_pow (n := 32) hx hy) hz]
theorem notW {a : Nat} (ha : a < M32) : Sx.ibits .xor .u32 (if IntKind.u32.signed = true then -1 else IntKind.u32.max) (a : Int) = ((M32 - 1 - a : Nat) : Int) := by
 have h1 : (if IntKind.u32.signed = true then (-1 : Int) else IntKind.u32.max) = ((4294967295 : Nat) : Int) := rfl
 rw [h1, xor32' (by omega) ha]
 congr 1
 apply Nat.eq_of_testBit_eq
 intro i
 rw [Nat.testBit_xor, show (4294967295 : Nat) = 2 ^ 32 - 1 from rfl, Nat.testBit_two_pow_sub_one, show M32 - 1 - a = 2 ^ 32 - (a + 1) by simp only [M32] at ha ⊢; omega, Nat.testBit_two_pow_sub_succ (show a < 2 ^ 32 from ha)]
 by_cases hi : i < 32
 ·simp [hi]
 ·have : a.testBit i = false := Nat.testBit_lt_two_pow (Nat.lt_of_lt_of_le (show a < 2 ^ 32 from ha) (Nat.pow_le_pow_right (by omega) (by omega)))
  simp [hi, this]
theorem and_lt {a b : Nat} (ha : a < M32) : (a &&& b) < M32 := Nat.lt_of_le_of_lt Nat.and_le_left ha
theorem one32 (a7 k w : Nat) {a4 a5 a6 : Nat} (h4 : a4 < M32) (h5 : a5 < M32) (h6 : a6 < M32) : IntKind.u32.wrap (IntKind.u32.wrap (IntKind.u32.wrap (IntKind.u32.wrap ((a7 : Int) + Sx.ibits .xor .u32 (Sx.ibits .xor .u32 (rtr a4 6 : Int) (rtr a4 11 : Int)) (rtr a4 25 : Int)) + Sx.ibits .xor .u32 (Sx.ibits .and .u32 (a4 : Int) (a5 : Int)) (Sx.ibits .and .u32 (Sx.ibits .xor .u32 (if IntKind.u32.signed = true then -1 else IntKind.u32.max) (a4 : Int)) (a6 : Int))) + (k : Int)) + (w : Int)) = (((a7 + bg1 a4 + chS a4 a5 a6 + k + w) % M32 : Nat) : Int) := by
 have hn : M32 - 1 - a4 < M32 := by simp only [M32] at h4 ⊢; omega
 rw [notW h4, xS (rtr_lt h4) (rtr_lt h4) (rtr_lt h4), and32 h4 h5, and32 hn h6, xor32' (and_lt h4) (and_lt hn)]
 rw [← Int.natCast_add, wu32, ← Int.natCast_add, wu32, ← Int.natCast_add, wu32, ← Int.natCast_add, wu32]
 have e1 : rtr a4 6 ^^^ rtr a4 11 ^^^ rtr a4 25 = bg1 a4 := rfl
 have e2 : (a4 &&& a5) ^^^ ((M32 - 1 - a4) &&& a6) = chS a4 a5 a6 := rfl
 rw [e1, e2, show M32 = 2 ^ 32 from rfl]
 generalize bg1 a4 = p
 generalize chS a4 a5 a6 = q
 omega
theorem two32 {a0 a1 a2 : Nat} (h0 : a0 < M32) (h1 : a1 < M32) (h2 : a2 < M32) : IntKind.u32.wrap (Sx.ibits .xor .u32 (Sx.ibits .xor .u32 (rtr a0 2 : Int) (rtr a0 13 : Int)) (rtr a0 22 : Int) + Sx.ibits .xor .u32 (Sx.ibits .xor .u32 (Sx.ibits .and .u32 (a0 : Int) (a1 : Int)) (Sx.ibits .and .u32 (a0 : Int) (a2 : Int))) (Sx.ibits .and .u32 (a1 : Int) (a2 : Int))) = (((bg0 a0 + mjS a0 a1 a2) % M32 : Nat) : Int) := by
 rw [xS (rtr_lt h0) (rtr_lt h0) (rtr_lt h0), and32 h0 h1, and32 h0 h2, and32 h1 h2, xS (and_lt h0) (and_lt h0) (and_lt h1)]
 rw [← Int.natCast_add, wu32]
 have e1 : rtr a0 2 ^^^ rtr a0 13 ^^^ rtr a0 22 = bg0 a0 := rfl
 have e2 : (a0 &&& a1) ^^^ (a0 &&& a2) ^^^ (a1 &&& a2) = mjS a0 a1 a2 := rfl
 rw [e1, e2, show M32 = 2 ^ 32 from rfl]
theorem sum32 (a b : Nat) : IntKind.u32.wrap ((a : Int) + (b : Int)) = (((a + b) % M32 : Nat) : Int) := by
 rw [← Int.natCast_add, wu32, show M32 = 2 ^ 32 from rfl]
def hRow (v : List Nat) (tl : List UInt8) (n : Int) : List PV := v.map eW ++ [.str tl, .int .i64 n]
noncomputable def cxm (L l : Nat) : Cx := ⟨Tryz.prog, tys, meths, false, L, some l, [], [], false, [], fun _ => False⟩
theorem cxmOk (L l : Nat) : (cxm L l).Ok := ⟨tysOk, fieldsOk, mixedOk, methsOk⟩
theorem be4 (c0 c1 c2 c3 : UInt8) : Sx.ibits .or .u32 (Sx.ibits .or .u32 (Sx.ibits .or .u32 (IntKind.u32.wrap (IntKind.u32.wrap (c0.toNat : Int) * 2 ^ min 24 32)) (IntKind.u32.wrap (IntKind.u32.wrap (c1.toNat : Int) * 2 ^ min 16 32))) (IntKind.u32.wrap (IntKind.u32.wrap (c2.toNat : Int) * 2 ^ min 8 32))) (IntKind.u32.wrap (c3.toNat : Int)) = ((getB [c0, c1, c2, c3] : Nat) : Int) := by
 have h0 := c0.toNat_lt
 have h1 := c1.toNat_lt
 have h2 := c2.toNat_lt
 have h3 := c3.toNat_lt
 have hg : getB [c0, c1, c2, c3] = ((c0.toNat * 256 + c1.toNat) * 256 + c2.toNat) * 256 + c3.toNat := by simp [getB]
 rw [hg]
 generalize c0.toNat = a at *
 generalize c1.toNat = b at *
 generalize c2.toNat = c at *
 generalize c3.toNat = d at *
 have w : ∀ x k : Nat, x < 256 → k ≤ 24 → IntKind.u32.wrap (IntKind.u32.wrap (x : Int) * 2 ^ min k 32) = ((x * 2 ^ k : Nat) : Int) := fun x k hx hk => by
  have hp : 2 ^ k ≤ 2 ^ 24 := Nat.pow_le_pow_right (by omega) hk
  have hxk : x * 2 ^ k < 2 ^ 32 := Nat.lt_of_le_of_lt (Nat.mul_le_mul (show x ≤ 255 by omega) hp) (by omega)
  rw [wu32, Nat.mod_eq_of_lt (by omega), Nat.min_eq_left (by omega)]
  have : ((x : Int) * 2 ^ k) = ((x * 2 ^ k : Nat) : Int) := by simp
  rw [this, wu32, Nat.mod_eq_of_lt hxk]
 have w3 : IntKind.u32.wrap (d : Int) = (d : Int) := by rw [wu32, Nat.mod_eq_of_lt (by omega)]
 rw [w a 24 h0 (by omega), w b 16 h1 (by omega), w c 8 h2 (by omega), w3]
 have o1 : a * 2 ^ 24 ||| b * 2 ^ 16 = (a * 256 + b) * 2 ^ 16 := by
  rw [Nat.mul_comm a, ← Nat.two_pow_add_eq_or_of_lt (show b * 2 ^ 16 < 2 ^ 24 by omega)]; omega
 have o2 : (a * 256 + b) * 2 ^ 16 ||| c * 2 ^ 8 = ((a * 256 + b) * 256 + c) * 2 ^ 8 := by
  rw [Nat.mul_comm _ (2 ^ 16), ← Nat.two_pow_add_eq_or_of_lt (show c * 2 ^ 8 < 2 ^ 16 by omega)]; omega
 have o3 : ((a * 256 + b) * 256 + c) * 2 ^ 8 ||| d = ((a * 256 + b) * 256 + c) * 256 + d := by
  rw [Nat.mul_comm _ (2 ^ 8), ← Nat.two_pow_add_eq_or_of_lt (show d < 2 ^ 8 by omega)]; try omega
 rw [or32 (by omega) (by omega), o1, or32 (by omega) (by omega), o2, or32 (by omega) (by omega), o3]
theorem wA_get (l : List Nat) (N n i : Nat) (d : PV) (hi : i < n) (hN : i < N) : (wA l N n).getD i d = .int .u32 ((l.getD i 0 : Nat) : Int) := by
 rw [List.getD_eq_getElem?_getD, wA, List.getElem?_map, List.getElem?_range hN]
 simp [hi]
theorem w16 (a b : Nat) {x y : Nat} (hx : x < M32) (hy : y < M32) : IntKind.u32.wrap (IntKind.u32.wrap (IntKind.u32.wrap ((a : Int) + (b : Int)) + Sx.ibits .xor .u32 (Sx.ibits .xor .u32 (rtr x 7 : Int) (rtr x 18 : Int)) ((x : Int).fdiv (2 ^ min 3 32))) + Sx.ibits .xor .u32 (Sx.ibits .xor .u32 (rtr y 17 : Int) (rtr y 19 : Int)) ((y : Int).fdiv (2 ^ min 10 32))) = (((a + b + sg0 x + sg1 y) % M32 : Nat) : Int) := by
 rw [shr32' x 3 (by omega), shr32' y 10 (by omega), xS (rtr_lt hx) (rtr_lt hx) (Nat.lt_of_le_of_lt (Nat.div_le_self _ _) hx), xS (rtr_lt hy) (rtr_lt hy) (Nat.lt_of_le_of_lt (Nat.div_le_self _ _) hy)]
 rw [← Int.natCast_add, wu32, ← Int.natCast_add, wu32, ← Int.natCast_add, wu32]
 show (((((a + b) % 2 ^ 32 + sg0 x) % 2 ^ 32 + sg1 y) % 2 ^ 32 : Nat) : Int) = _
 rw [show M32 = 2 ^ 32 from rfl]
 generalize sg0 x = p
 generalize sg1 y = q
 omega
theorem W8.nth {l : List Nat} (h : W8 l) : ∃ a0 a1 a2 a3 a4 a5 a6 a7, l = [a0, a1, a2, a3, a4, a5, a6, a7] := by
 match l, h.1 with
 | [a0, a1, a2, a3, a4, a5, a6, a7], _ => exact ⟨a0, a1, a2, a3, a4, a5, a6, a7, rfl⟩
theorem eW_get (l : List Nat) (i : Nat) (d : PV) (hi : i < l.length) : (l.map eW).getD i d = .int .u32 ((l.getD i 0 : Nat) : Int) := by
 simp [List.getD_eq_getElem?_getD, hi, eW]
def adP (h v : List Nat) (i : Nat) : List Nat := (List.range 8).map fun j => if j < i then (h.getD j 0 + v.getD j 0) % M32 else h.getD j 0
theorem adP_len (h v : List Nat) (i : Nat) : (adP h v i).length = 8 := by simp [adP]
theorem adP_get (h v : List Nat) {i j : Nat} (hj : j < 8) : (adP h v i).getD j 0 = if j < i then (h.getD j 0 + v.getD j 0) % M32 else h.getD j 0 := by
 rw [List.getD_eq_getElem?_getD, adP, List.getElem?_map, List.getElem?_range hj]; rfl
theorem adP_zero {h : List Nat} (h8 : h.length = 8) (v : List Nat) : adP h v 0 = h := by
 apply List.ext_getElem (by rw [adP_len, h8])
 intro i h1 h2
 simp [adP, List.getD_eq_getElem?_getD, h2]
theorem adP_end (h v : List Nat) : adP h v 8 = addS h v := by
 unfold adP addS
 apply List.map_congr_left
 intro j hj
 rw [if_pos (List.mem_range.1 hj)]
theorem hRow_get {l : List Nat} (hl : l.length = 8) (tl : List UInt8) (n : Int) {j : Nat} (hj : j < 8) (d : PV) : (hRow l tl n).getD j d = .int .u32 ((l.getD j 0 : Nat) : Int) := by
 simp only [hRow, List.getD_eq_getElem?_getD]
 rw [List.getElem?_append_left (by rw [List.length_map]; omega)]
 simp [show j < l.length by omega, eW]
theorem hRow_set (h v : List Nat) (tl : List UInt8) (n : Int) {j : Nat} (hj : j < 8) : List.take j (hRow (adP h v j) tl n) ++ [.int .u32 (((h.getD j 0 + v.getD j 0) % M32 : Nat) : Int)] ++ List.drop (j + 1) (hRow (adP h v j) tl n) = hRow (adP h v (j + 1)) tl n := by
 have hs : (hRow (adP h v j) tl n).set j (eW ((h.getD j 0 + v.getD j 0) % M32)) = hRow (adP h v (j + 1)) tl n := by
  unfold hRow
  rw [List.set_append_left _ _ (by rw [List.length_map, adP_len]; exact hj), ← List.map_set]
  congr 2
  apply List.ext_getElem (by rw [List.length_set, adP_len, adP_len])
  intro i h1 h2
  rw [List.getElem_set]
  simp only [adP, List.getElem_map, List.getElem_range]
  by_cases e : j = i
  ·subst e; rw [if_pos rfl, if_pos (by omega)]
  ·rw [if_neg e]
   have : (i < j) = (i < j + 1) := by apply propext; omega
   simp only [this]
 rw [← hs, List.set_eq_take_append_cons_drop, if_pos (by simp [hRow, adP_len]; omega)]
 simp [eW]
theorem mix_ok {F : SF} {L nx : Nat} (h : Nm) (hh : h.l ≤ L) (v k : List Nat) (hv : W8 v) (hk : k.length = 64) (hk2 : ∀ i, k.getD i 0 < M32) (s : List UInt8) (hl : s.length ≤ 1000000) (tl : List UInt8) (n : Int) (hF : F h = some (.rows 247 10 true true [hRow v tl n])) :
  Con Tryz.prog 161 [.ptr h 0 0, .str s, .agg (k.map eW)] F L nx nx (.tup []) [(h, .rows 247 10 true true [hRow (mixsS k v s (s.length / 64)) tl n])] [h] := by
 have hkm : (k.map eW).length = 64 := by rw [List.length_map, hk]
 have hkn := eW_nf k
 obtain ⟨kk, hkk⟩ : ∃ kk, kk = k.map eW := ⟨_, rfl⟩
 rw [← hkk] at hkm hkn ⊢
 have hb := fun F L nx => blocks_ok (F := F) (L := L) (nx := nx) s
 refine bdy Tryz.f161 (hrd := (by simp; omega)) ?_
 intro F3 hF1 hF2
 have kh : F3 h = some (.rows 247 10 true true [hRow v tl n]) := (hF1 h (by simp)).trans hF
 have h1 : ∀ k, (h = (⟨L + 1, k⟩ : Nm)) = False := nm_out hh
 have h2 : ∀ k, ((⟨L + 1, k⟩ : Nm) = h) = False := nm_out' hh
 simp only [Tryz.f161, cx, hkm, hkn, go_sem, meths]
 refine CallVC.same (hb _ _ _) ?_
 simp only [go_sem]
 obtain ⟨N, hN⟩ : ∃ N, N = s.length / 64 := ⟨_, rfl⟩
 rw [← hN]
 refine rangeK.intro (v := .tup []) (top := 97) (rd := [⟨L + 1, 96⟩, h, ⟨L + 1, 0⟩, ⟨L + 1, 32⟩]) (upd := [(⟨L + 1, 96⟩, .rows 9 1 true true [[.str (s.drop (64 * N))]]), (h, .rows 247 10 true true [hRow (mixsS k v s N) tl n])]) (f := 166) (fl := []) (cl := [.ptr ⟨L + 1, 96⟩ 0 0]) (by simp only [evalT, List.getD_cons_zero, List.getD_cons_succ]) rfl ⟨Tryz.f166, by kernel_rfl, by rfl, by kernel_rfl⟩ [none, none, none, some (.ptr ⟨L + 1, 0⟩ 0 0), none, some (.ptr ⟨L + 1, 32⟩ 0 0), none, none, none, none, none, none, none, none, none, none, none, none, none, none, none, none, none, none, none, none, none, none, none, none, none, none, none, none, none, none, none, none, none, none, none, none, none, none, none, none, none, none, none, none, none, none, none, none, none, none, none, none, none, none, none, none, none, none, none, none, none, none, none, none, none, none, none, none, none, none, none, none, none, none, none, none, none, none, none, none, none, none, none, none, none, none, none, none, none, none, none, none, none, none, none, none, none, none, none, none, none, none, none, none, none, none, none, none, none, none, none, none, none, none, none, none, none, none, none, none, none, none, none, none, none, none, none, none, none, none, none, none, none, none, none, none, none, none, none, none, none, none, none, none, none, none, none, none, none, none, none, none, none, none, none, none, none, none, none, none, none, none, none, none, none, none, none, none, none, none, none, none, none, none, none, none, none, none, none, none, none, none, none, none, none, none, none, none, none, none, none, none] ?_ ?_ ?_
 ·simp only [go_sem, subT, and_self]
 ·intro y y1 y2 y3 y4
  refine blocks1_ok (L := L + 1) (nx := 97) s hl ⟨L + 1, 96⟩ h (by simp) (.inr ⟨rfl, by simp⟩) (by omega) (.inl (by omega)) (by simp [h2]) true (by simp [Tx.look]) 247 10 (fun i => [hRow (mixsS k v s i) tl n]) (by simp [Tx.look, h1, kh]; rfl) [⟨L + 1, 0⟩, ⟨L + 1, 32⟩] (by intro m hm; simp only [List.mem_cons, List.not_mem_nil, or_false] at hm; rcases hm with rfl | rfl <;> simp [h2]) N hN y ?_
  intro F4 i nx3 hi hFh hFr
  have r0 := hFr ⟨L + 1, 0⟩ (by simp)
  have r1 := hFr ⟨L + 1, 32⟩ (by simp)
  simp only [Tx.look, if_true, if_false, Nm.mk.injEq, true_and, Nat.reduceEqDiff] at r0 r1
  have hw8 := mixsS_8 hv k s i
  obtain ⟨u, hu⟩ : ∃ u, u = mixsS k v s i := ⟨_, rfl⟩
  obtain ⟨b, hb⟩ : ∃ b, b = blkD s i := ⟨_, rfl⟩
  have hm1 : mixsS k v s (i + 1) = mixS k u b := by rw [hu, hb]; rfl
  have hbl : b.length = 64 := by rw [hb, blkD, List.length_take, List.length_drop]; omega
  rw [hm1, ← hb]
  rw [← hu] at hw8 hFh
  refine YCon.body (cxmOk (L + 3) y.l) (by rfl) (by rfl) (k := 0) (by rfl) (by simp; omega) (by rw [y1]; rfl) (by rw [y1, y4]; simp) ?_
  intro F5 hF5 hF6
  have q1 := (hF5 h (by simp)).trans hFh
  have q2 := (hF5 ⟨L + 1, 0⟩ (by simp)).trans r0
  have q3 := (hF5 ⟨L + 1, 32⟩ (by simp)).trans r1
  have z1 : ∀ k, ((⟨L + 2 + 1, k⟩ : Nm) = h) = False := fun k => nm_out' (by omega) k
  have z2 : ∀ k, (h = (⟨L + 2 + 1, k⟩ : Nm)) = False := fun k => nm_out (by omega) k
  have z3 : ∀ k j, ((⟨L + 2 + 1, k⟩ : Nm) = ⟨L + 1, j⟩) = False := fun k j => by simp
  have z4 : ∀ k j, ((⟨L + 1, j⟩ : Nm) = ⟨L + 2 + 1, k⟩) = False := fun k j => by simp
  rw [y1, y2, y3, y4]
  simp only [setPs, List.zip_cons_cons, List.zip_nil_right, cxm, Nat.add_assoc, go_sem, meths]
  refine loopK.intro _ _ (I := fun t : Nat => ⟨[none, none, none, some (.ptr ⟨L + 1, 0⟩ 0 0), none, some (.ptr ⟨L + 1, 32⟩ 0 0), some (.str b), some (.ptr ⟨L + 2 + 1, 32⟩ 0 0), none, none, none, none, none, none, none, none, none, none, none, none, none, none, some (.int .i64 t)] ++ oz 175, [(⟨L + 2 + 1, 32⟩, .rows 220 64 true true [wA (wS b 64) 64 t])], 10000 * (t + 1)⟩)
   (pre := fun t => t ≤ 64) (μ := fun t => 64 - t) 0 (by omega) ?_ ?_
  ·refine Sub.of (fun n hn => hF6 n (by have : n.l = L + 2 + 1 := hn; omega)) (by simp only [go_sem, subT]; try trivial) ?_ (by simp [subK, keys]) (by simp)
   simp only [subH, Tx.look, wA_zero, List.replicate, if_true, and_true, Nat.add_assoc, go_sem]
   try simp
  intro t ht
  have lw := wA_len (wS b 64) 64 t
  by_cases hlt : t < 64
  ·have f1 : decide ((t : Int) < 64) = true := dT (by omega)
   have hat := wS_at b (n := 64) hlt
   by_cases h16 : t < 16
   ·have f2 : decide ((t : Int) < 16) = true := dT (by omega)
    rw [if_pos h16] at hat
    obtain ⟨c0, c1, c2, c3, hc⟩ : ∃ c0 c1 c2 c3, (b.drop (4 * t)).take 4 = [c0, c1, c2, c3] := by
     have hl4 : ((b.drop (4 * t)).take 4).length = 4 := by rw [List.length_take, List.length_drop]; omega
     match (b.drop (4 * t)).take 4, hl4 with
     | [c0, c1, c2, c3], _ => exact ⟨c0, c1, c2, c3, rfl⟩
    have e1 : (4 * (t : Int)) = ((4 * t : Nat) : Int) := by omega
    have e2 : (((4 * t : Nat) : Int) + 4) = ((4 * t + 4 : Nat) : Int) := by omega
    have e3 : 4 * t + 4 - 4 * t = 4 := by omega
    simp only [f1, f2, e1, e2, e3, hc, Int.toNat_natCast, q1, q2, z2, z4, kS2, Nat.add_assoc, Nat.add_zero, go_sem]
    repeat refine sd2 ?_
    refine ⟨okDyn_num (fun x => x.i) (by kernel_rfl), ⟨by omega, by omega⟩, ?_⟩
    refine ⟨t + 1, by omega, by omega, ?_⟩
    refine Sub.of (fun n hn => hF6 n (by have : n.l = L + 2 + 1 := hn; omega)) (by simp only [go_sem, subT, and_self, Int.natCast_succ]; try trivial) ?_ (by simp [subK, keys]) (by simp only []; omega)
    have hw := wA_set (wS b 64) 64 t _ hlt (hat.trans (by rw [hc])).symm
    simp only [subH, Tx.look, be4, Nat.mul_one, hw, if_true, and_true]
   ·have f2 : decide ((t : Int) < 16) = false := dF (by omega)
    rw [if_neg h16] at hat
    have a1 : ((t : Int) - 15) = ((t - 15 : Nat) : Int) := by omega
    have a2 : ((t : Int) - 2) = ((t - 2 : Nat) : Int) := by omega
    have a3 : ((t : Int) - 16) = ((t - 16 : Nat) : Int) := by omega
    have a4 : ((t : Int) - 7) = ((t - 7 : Nat) : Int) := by omega
    have g1 := fun d => wA_get (wS b 64) 64 t (t - 15) d (by omega) (by omega)
    have g2 := fun d => wA_get (wS b 64) 64 t (t - 2) d (by omega) (by omega)
    have g3 := fun d => wA_get (wS b 64) 64 t (t - 16) d (by omega) (by omega)
    have g4 := fun d => wA_get (wS b 64) 64 t (t - 7) d (by omega) (by omega)
    have l1 := wS_lt b 64 (t - 15)
    have l2 := wS_lt b 64 (t - 2)
    obtain ⟨x15, h15⟩ : ∃ x, x = (wS b 64).getD (t - 15) 0 := ⟨_, rfl⟩
    obtain ⟨x2, h2'⟩ : ∃ x, x = (wS b 64).getD (t - 2) 0 := ⟨_, rfl⟩
    obtain ⟨x16, h16'⟩ : ∃ x, x = (wS b 64).getD (t - 16) 0 := ⟨_, rfl⟩
    obtain ⟨x7, h7'⟩ : ∃ x, x = (wS b 64).getD (t - 7) 0 := ⟨_, rfl⟩
    rw [← h15] at hat l1 g1
    rw [← h2'] at hat l2 g2
    rw [← h16'] at hat g3
    rw [← h7'] at hat g4
    have p1 : ∀ F L nx, Con Tryz.prog 164 [.int .u32 x15, .int .i64 (-7)] F L nx nx (.int .u32 (rtr x15 7)) [] [] := fun F L nx => rot32_ok x15 7 l1 (by omega) (by omega)
    have p2 : ∀ F L nx, Con Tryz.prog 164 [.int .u32 x15, .int .i64 (-18)] F L nx nx (.int .u32 (rtr x15 18)) [] [] := fun F L nx => rot32_ok x15 18 l1 (by omega) (by omega)
    have p3 : ∀ F L nx, Con Tryz.prog 164 [.int .u32 x2, .int .i64 (-17)] F L nx nx (.int .u32 (rtr x2 17)) [] [] := fun F L nx => rot32_ok x2 17 l2 (by omega) (by omega)
    have p4 : ∀ F L nx, Con Tryz.prog 164 [.int .u32 x2, .int .i64 (-19)] F L nx nx (.int .u32 (rtr x2 19)) [] [] := fun F L nx => rot32_ok x2 19 l2 (by omega) (by omega)
    simp only [f1, f2, a1, a2, a3, a4, g1, g2, g3, g4, Nat.mul_one, Int.toNat_natCast, Nat.add_assoc, go_sem]
    repeat refine sd2 ?_
    refine ⟨okDyn_num (fun x => x.i) (by kernel_rfl), ?_⟩
    repeat refine sd2 ?_
    refine CallVC.same (p1 _ _ _) ?_
    simp only [Nat.add_assoc, go_sem]
    repeat refine sd2 ?_
    refine CallVC.same (p2 _ _ _) ?_
    simp only [Nat.add_assoc, go_sem]
    repeat refine sd2 ?_
    refine CallVC.same (p3 _ _ _) ?_
    simp only [Nat.add_assoc, go_sem]
    repeat refine sd2 ?_
    refine CallVC.same (p4 _ _ _) ?_
    simp only [Nat.mul_one, Int.toNat_natCast, Nat.add_assoc, go_sem]
    repeat refine sd2 ?_
    refine ⟨okDyn_num (fun x => x.i) (by kernel_rfl), ⟨by omega, by omega⟩, ?_⟩
    refine ⟨t + 1, by omega, by omega, ?_⟩
    refine Sub.of (fun n hn => hF6 n (by have : n.l = L + 2 + 1 := hn; omega)) (by simp only [go_sem, subT, and_self, Int.natCast_succ]; try trivial) ?_ (by simp [subK, keys]) (by simp only []; omega)
    have hw := wA_set (wS b 64) 64 t _ hlt hat.symm
    have hv16 := w16 x16 x7 l1 l2
    simp only [subH, Tx.look, hv16, hw, if_true, and_true]
  ·obtain rfl : t = 64 := by omega
   have f1 : decide (((64 : Nat) : Int) < 64) = false := dF (by omega)
   have hu8 : (u.map eW).length = 8 := by rw [List.length_map]; exact hw8.1
   have hun := eW_nf u
   have hrow : hRow u tl n = u.map eW ++ [.str tl, .int .i64 n] := rfl
   have ht8 : List.take 8 (hRow u tl n) = u.map eW := by rw [hrow, List.take_append_of_le_length (by omega), List.take_of_length_le (by omega)]
   have hrl : (hRow u tl n).length = 10 := by rw [hrow, List.length_append, hu8]; rfl
   simp only [f1, ht8, hu8, hun, q1, q2, z2, z4, Nat.add_assoc, Nat.add_zero, go_sem]
   repeat refine sd2 ?_
   obtain ⟨w, hw⟩ : ∃ w, w = wS b 64 := ⟨_, rfl⟩
   have hwl : ∀ i, w.getD i 0 < M32 := fun i => by rw [hw]; exact wS_lt b 64 i
   have hmx : mixS k u b = addS u (rdsS k w u 64) := by rw [hw]; rfl
   rw [← hw, hmx]
   rw [← hw] at lw
   refine loopK.intro _ _ (I := fun r : Nat => ⟨[none, none, none, some (.ptr ⟨L + 1, 0⟩ 0 0), none, some (.ptr ⟨L + 1, 32⟩ 0 0), none, some (.ptr ⟨L + 2 + 1, 32⟩ 0 0), none, none, none, none, some (.ptr ⟨L + 2 + 1, 650192⟩ 0 0), none, none, none, none, none, none, none, none, none, none, none, none, none, none, none, none, none, none, none, none, none, none, none, none, none, none, none, none, none, none, none, none, none, none, none, none, none, none, none, none, none, none, none, none, none, none, none, none, none, none, none, none, none, none, none, none, none, none, none, none, none, none, none, none, none, none, none, none, none, none, none, none, none, none, none, none, none, none, none, none, none, none, none, none, some (.int .i64 r)] ++ oz 100, [(⟨L + 2 + 1, 32⟩, .rows 220 64 true true [wA w 64 64]), (⟨L + 2 + 1, 650192⟩, .rows 219 8 true true [(rdsS k w u r).map eW])], 10000 * (100 + r + 1)⟩)
    (pre := fun r => r ≤ 64) (μ := fun r => 64 - r) 0 (by omega) ?_ ?_
   ·refine Sub.of (fun n hn => hF6 n (by have : n.l = L + 2 + 1 := hn; omega)) (by simp only [go_sem, subT]; try trivial) ?_ (by simp [subK, keys]) (by simp)
    simp [subH, Tx.look, rdsS]
   intro r hr
   have hr8 := rdsS_8 hw8 k w r
   obtain ⟨x, hx⟩ : ∃ x, x = rdsS k w u r := ⟨_, rfl⟩
   by_cases hr64 : r < 64
   ·have f3 : decide ((r : Int) < 64) = true := dT (by omega)
    have hx1 : rdsS k w u (r + 1) = rdS x (k.getD r 0) (w.getD r 0) := by rw [hx]; rfl
    rw [← hx] at hr8 ⊢
    obtain ⟨a0, a1, a2, a3, a4, a5, a6, a7, rfl⟩ := hr8.nth
    have b0 : a0 < M32 := hr8.2 0
    have b1 : a1 < M32 := hr8.2 1
    have b2 : a2 < M32 := hr8.2 2
    have b4 : a4 < M32 := hr8.2 4
    have b5 : a5 < M32 := hr8.2 5
    have b6 : a6 < M32 := hr8.2 6
    have gk : ∀ d, kk.getD r d = .int .u32 ((k.getD r 0 : Nat) : Int) := fun d => by rw [hkk]; exact eW_get k r d (by omega)
    have gw : ∀ d, (wA w 64 64).getD r d = .int .u32 ((w.getD r 0 : Nat) : Int) := fun d => wA_get w 64 64 r d hr64 hr64
    have p1 : ∀ F L nx, Con Tryz.prog 164 [.int .u32 a4, .int .i64 (-6)] F L nx nx (.int .u32 (rtr a4 6)) [] [] := fun F L nx => rot32_ok a4 6 b4 (by omega) (by omega)
    have p2 : ∀ F L nx, Con Tryz.prog 164 [.int .u32 a4, .int .i64 (-11)] F L nx nx (.int .u32 (rtr a4 11)) [] [] := fun F L nx => rot32_ok a4 11 b4 (by omega) (by omega)
    have p3 : ∀ F L nx, Con Tryz.prog 164 [.int .u32 a4, .int .i64 (-25)] F L nx nx (.int .u32 (rtr a4 25)) [] [] := fun F L nx => rot32_ok a4 25 b4 (by omega) (by omega)
    have p4 : ∀ F L nx, Con Tryz.prog 164 [.int .u32 a0, .int .i64 (-2)] F L nx nx (.int .u32 (rtr a0 2)) [] [] := fun F L nx => rot32_ok a0 2 b0 (by omega) (by omega)
    have p5 : ∀ F L nx, Con Tryz.prog 164 [.int .u32 a0, .int .i64 (-13)] F L nx nx (.int .u32 (rtr a0 13)) [] [] := fun F L nx => rot32_ok a0 13 b0 (by omega) (by omega)
    have p6 : ∀ F L nx, Con Tryz.prog 164 [.int .u32 a0, .int .i64 (-22)] F L nx nx (.int .u32 (rtr a0 22)) [] [] := fun F L nx => rot32_ok a0 22 b0 (by omega) (by omega)
    simp only [f3, eW, Nat.mul_one, Nat.add_assoc, Nat.add_zero, go_sem]
    repeat refine sd2 ?_
    refine ⟨okDyn_num (fun x => x.i) (by kernel_rfl), ?_⟩
    repeat refine sd2 ?_
    refine CallVC.same (p1 _ _ _) ?_
    simp only [Nat.add_assoc, go_sem]
    repeat refine sd2 ?_
    refine CallVC.same (p2 _ _ _) ?_
    simp only [Nat.add_assoc, go_sem]
    repeat refine sd2 ?_
    refine CallVC.same (p3 _ _ _) ?_
    simp only [gk, gw, Int.toNat_natCast, Nat.mul_one, q3, z4, Nat.add_assoc, go_sem]
    repeat refine sd2 ?_
    try refine ⟨okDyn_num (fun x => x.i) (by kernel_rfl), ?_⟩
    repeat refine sd2 ?_
    refine CallVC.same (p4 _ _ _) ?_
    simp only [Nat.add_assoc, go_sem]
    repeat refine sd2 ?_
    refine CallVC.same (p5 _ _ _) ?_
    simp only [Nat.add_assoc, go_sem]
    repeat refine sd2 ?_
    refine CallVC.same (p6 _ _ _) ?_
    simp only [Nat.mul_one, Nat.add_assoc, Nat.add_zero, go_sem]
    repeat refine sd2 ?_
    refine ⟨okDyn_num (fun x => x.i) (by kernel_rfl), ⟨by omega, by omega⟩, ⟨by omega, by omega⟩, ⟨by omega, by omega⟩, ⟨by omega, by omega⟩, ⟨by omega, by omega⟩, ⟨by omega, by omega⟩, ⟨by omega, by omega⟩, ⟨by omega, by omega⟩, ?_⟩
    have o1 := one32 a7 (k.getD r 0) (w.getD r 0) b4 b5 b6
    have o2 := two32 b0 b1 b2
    have hx2 : (rdsS k w u (r + 1)).map eW = [.int .u32 ((((a7 + bg1 a4 + chS a4 a5 a6 + k.getD r 0 + w.getD r 0) % M32 + (bg0 a0 + mjS a0 a1 a2) % M32) % M32 : Nat) : Int), .int .u32 a0, .int .u32 a1, .int .u32 a2, .int .u32 (((a3 + (a7 + bg1 a4 + chS a4 a5 a6 + k.getD r 0 + w.getD r 0) % M32) % M32 : Nat) : Int), .int .u32 a4, .int .u32 a5, .int .u32 a6] := by
     rw [hx1]
     simp only [rdS, List.getD_cons_zero, List.getD_cons_succ, List.map_cons, List.map_nil, eW]
    refine ⟨r + 1, by omega, by omega, ?_⟩
    refine Sub.of (fun n hn => hF6 n (by have : n.l = L + 2 + 1 := hn; omega)) (by simp only [go_sem, subT, and_self, Int.natCast_succ]; try trivial) ?_ (by simp [subK, keys]) (by simp only []; omega)
    simp only [subH, Tx.look, o1, o2, sum32, hx2, nm_eq, Nat.reduceEqDiff, if_true, if_false, and_true]
   ·obtain rfl : r = 64 := by omega
    have f3 : decide (((64 : Nat) : Int) < 64) = false := dF (by omega)
    rw [← hx] at hr8 ⊢
    simp only [f3, Nat.add_assoc, go_sem]
    repeat refine sd2 ?_
    refine loopK.intro _ _ (I := fun j : Nat => ⟨[none, none, none, some (.ptr ⟨L + 1, 0⟩ 0 0), none, none, none, none, none, none, none, none, some (.ptr ⟨L + 2 + 1, 650192⟩ 0 0), none, none, none, none, none, none, none, none, none, none, none, none, none, none, none, none, none, none, none, none, none, none, none, none, none, none, none, none, none, none, none, none, none, none, none, none, none, none, none, none, none, none, none, none, none, none, none, none, none, none, none, none, none, none, none, none, none, none, none, none, none, none, none, none, none, none, none, none, none, none, none, none, none, none, none, none, none, none, none, none, none, none, none, none, none, none, none, none, none, none, none, none, none, none, none, none, none, none, none, none, none, none, none, none, none, none, none, none, none, none, none, none, none, none, none, none, none, none, none, none, none, none, none, none, none, none, none, none, none, none, none, none, none, none, none, none, none, none, none, none, none, none, none, none, none, none, none, none, none, none, none, none, none, none, none, none, none, none, none, none, none, none, none, none, none, none, some (.int .i64 j)] ++ oz 18, [(⟨L + 2 + 1, 650192⟩, .rows 219 8 true true [x.map eW]), (h, .rows 247 10 true true [hRow (adP u x j) tl n])], 10000 * (200 + j + 1)⟩)
     (pre := fun j => j ≤ 8) (μ := fun j => 8 - j) 0 (by omega) ?_ ?_
    ·refine Sub.of (fun n hn => hF6 n (by have : n.l = L + 2 + 1 := hn; omega)) (by simp only [go_sem, subT]; try trivial) ?_ (by simp [subK, keys]) (by simp)
     simp [subH, Tx.look, adP_zero hw8.1, q1, z2]
    intro j hj
    by_cases hj8 : j < 8
    ·have f4 : decide ((j : Int) < 8) = true := dT (by omega)
     have gj : ∀ d, (hRow (adP u x j) tl n).getD j d = .int .u32 ((u.getD j 0 : Nat) : Int) := fun d => by rw [hRow_get (adP_len u x j) tl n hj8, adP_get u x hj8, if_neg (by omega)]
     have gx : ∀ d, (x.map eW).getD j d = .int .u32 ((x.getD j 0 : Nat) : Int) := fun d => eW_get x j d (by rw [hr8.1]; exact hj8)
     have hst := hRow_set u x tl n hj8
     have hal : (hRow (adP u x j) tl n).length = 10 := by simp [hRow, adP_len]
     have hxl : (x.map eW).length = 8 := by rw [List.length_map]; exact hr8.1
     simp only [f4, gj, gx, Nat.mul_one, Nat.zero_add, Int.toNat_natCast, q1, q2, h2, z1, z2, z4, Nat.add_assoc, Nat.add_zero, go_sem]
     repeat refine sd2 ?_
     refine ⟨okDyn_num (fun x => if x = h then 1 else x.i + 2) (by simp only [numF, List.map, z1, h2, if_true, if_false]; kernel_rfl), ⟨by omega, by omega⟩, ?_⟩
     refine ⟨j + 1, by omega, by omega, ?_⟩
     have hadd : IntKind.u32.wrap (((u.getD j 0 : Nat) : Int) + ((x.getD j 0 : Nat) : Int)) = (((u.getD j 0 + x.getD j 0) % M32 : Nat) : Int) := by rw [← Int.natCast_add, wu32, show M32 = 2 ^ 32 from rfl]
     refine Sub.of (fun n hn => hF6 n (by have : n.l = L + 2 + 1 := hn; omega)) (by simp only [go_sem, subT, and_self, Int.natCast_succ]; try trivial) ?_ (by simp [subK, keys]) (by simp only []; omega)
     simp only [subH, Tx.look, hadd, hst, z1, z2, if_true, if_false, and_true]
    ·obtain rfl : j = 8 := by omega
     have f4 : decide (((8 : Nat) : Int) < 8) = false := dF (by omega)
     rw [adP_end]
     simp only [f4, Nat.add_assoc, go_sem]
     refine ⟨rfl, _, Sub.refl _ _ _, [], rfl, by simp, ⟨by omega, ?_, trivial⟩, ?_⟩
     ·rw [kp_out (.inl (by omega))]
      exact .pure (by simp [Tx.look, z2])
     ·simp [UpdAll, keys]
 ·simp only [h1, Nm.mk.injEq, go_sem]
  exact PostF.of (p := True) (v0 := .tup []) (.inl rfl) (by simp only [resVal, resVals, one, go_sem]) trivial (by simp [Wk, WkL]) (by simp [wkN, wkNL]) (by simp [Tx.nf, nfl]) ⟨hh, by simp [Tx.look, h1, BW], trivial⟩ (by simp [UpdAll, keys])
theorem hRow_8 {l : List Nat} (hl : l.length = 8) (tl : List UInt8) (n : Int) (d : PV) : (hRow l tl n).getD 8 d = .str tl := by
 match l, hl with
 | [_, _, _, _, _, _, _, _], _ => rfl
theorem hRow_9 {l : List Nat} (hl : l.length = 8) (tl : List UInt8) (n : Int) (d : PV) : (hRow l tl n).getD 9 d = .int .i64 n := by
 match l, hl with
 | [_, _, _, _, _, _, _, _], _ => rfl
theorem hRow_s8 {l : List Nat} (hl : l.length = 8) (tl t : List UInt8) (n : Int) : List.take 8 (hRow l tl n) ++ [.str t] ++ List.drop 9 (hRow l tl n) = hRow l t n := by
 match l, hl with
 | [_, _, _, _, _, _, _, _], _ => rfl
theorem hRow_s9 {l : List Nat} (hl : l.length = 8) (tl : List UInt8) (n m : Int) : List.take 9 (hRow l tl n) ++ [.int .i64 m] ++ List.drop 10 (hRow l tl n) = hRow l tl m := by
 match l, hl with
 | [_, _, _, _, _, _, _, _], _ => rfl
theorem hRow_len {l : List Nat} (hl : l.length = 8) (tl : List UInt8) (n : Int) : (hRow l tl n).length = 10 := by simp [hRow, hl]
theorem hRow_nf (l : List Nat) (tl : List UInt8) (n : Int) : nfl (hRow l tl n) = true := by rw [hRow, nfl_app, eW_nf]; rfl
theorem add_ok {F : SF} {L nx : Nat} (h : Nm) (hh : h.l ≤ L) (v k : List Nat) (hv : W8 v) (hk : k.length = 64) (hk2 : ∀ i, k.getD i 0 < M32) (s tl : List UInt8) (hl : tl.length + s.length ≤ 1000000) (n : Nat) (hn : n ≤ 1000000000) (hF : F h = some (.rows 247 10 true true [hRow v tl n])) :
  Con Tryz.prog 150 [.ptr h 0 0, .str s, .agg (k.map eW)] F L nx nx (.tup []) [(h, .rows 247 10 true true [hRow (mixsS k v (tl ++ s) ((tl ++ s).length / 64)) ((tl ++ s).drop ((tl ++ s).length / 64 * 64)) ((n + s.length : Nat) : Int)])] [h] := by
 have hkm : (k.map eW).length = 64 := by rw [List.length_map, hk]
 have hkn := eW_nf k
 have hlen : (tl ++ s).length = tl.length + s.length := List.length_append
 obtain ⟨t, ht⟩ : ∃ t, t = tl ++ s := ⟨_, rfl⟩
 rw [← ht] at hlen ⊢
 have htl : t.length ≤ 1000000 := by omega
 have hm := fun (F : SF) (L nx : Nat) (hh : h.l ≤ L) (hF : F h = _) => mix_ok (F := F) (L := L) (nx := nx) h hh v k hv hk hk2 t htl tl n hF
 have hm8 := mixsS_8 hv k t (t.length / 64)
 obtain ⟨u, hu⟩ : ∃ u, u = mixsS k v t (t.length / 64) := ⟨_, rfl⟩
 rw [← hu] at hm hm8 ⊢
 obtain ⟨kk, hkk⟩ : ∃ kk, kk = k.map eW := ⟨_, rfl⟩
 rw [← hkk] at hkm hkn hm ⊢
 have hc := fun F L nx => sClone_ok (F := F) (L := L) (nx := nx) (t.drop (t.length / 64 * 64)) (by rw [List.length_drop]; omega)
 refine bdy Tryz.f150 (hrd := (by simp; omega)) ?_
 intro F3 hF1 hF2
 have kh : F3 h = some (.rows 247 10 true true [hRow v tl n]) := (hF1 h (by simp)).trans hF
 have h1 : ∀ k, (h = (⟨L + 1, k⟩ : Nm)) = False := nm_out hh
 have h2 : ∀ k, ((⟨L + 1, k⟩ : Nm) = h) = False := nm_out' hh
 have r8 := hRow_8 hv.1 tl n
 have r9 := hRow_9 hm8.1 (t.drop (t.length / 64 * 64)) n
 have n1 := hRow_nf v tl n
 have l1 := hRow_len hv.1 tl n
 have l2 := hRow_len hm8.1 tl n
 have l3 := hRow_len hm8.1 (t.drop (t.length / 64 * 64)) n
 have s8 := hRow_s8 hm8.1 tl (t.drop (t.length / 64 * 64)) n
 have s9 := hRow_s9 hm8.1 (t.drop (t.length / 64 * 64)) n
 simp only [Tryz.f150, cx, hkm, hkn, kh, r8, ← ht, h1, Nat.add_zero, go_sem, meths]
 repeat refine sd2 ?_
 refine CallVC.same (hm _ _ _ (by omega) (by simp [h1, kh])) ?_
 have q1 : (t.length : Int).tdiv 64 = ((t.length / 64 : Nat) : Int) := by
  rw [Int.tdiv_eq_ediv_of_nonneg (by omega)]; rfl
 have q2 : (((t.length / 64 : Nat) : Int) * 64) = ((t.length / 64 * 64 : Nat) : Int) := by omega
 have q3 : t.length / 64 * 64 ≤ t.length := by omega
 have q4 : List.take (t.length - t.length / 64 * 64) (t.drop (t.length / 64 * 64)) = t.drop (t.length / 64 * 64) := List.take_of_length_le (by rw [List.length_drop]; omega)
 simp only [q1, q2, q4, h1, Int.toNat_natCast, go_sem]
 repeat refine sd2 ?_
 refine CallVC.same (hc _ _ _) ?_
 simp only [kh, r9, s8, s9, h1, Nat.add_zero, go_sem]
 repeat refine sd2 ?_
 exact PostF.of (p := True) (v0 := .tup []) (.inl rfl) (by simp only [resVal, resVals, one, go_sem]) trivial (by simp [Wk, WkL]) (by simp [wkN, wkNL]) (by simp [Tx.nf, nfl]) ⟨hh, by simp [Tx.look, h1, BW], trivial⟩ (by simp [UpdAll, keys])
end Go.Proofs.YtifhjhbfhdcahaaGreat
end
