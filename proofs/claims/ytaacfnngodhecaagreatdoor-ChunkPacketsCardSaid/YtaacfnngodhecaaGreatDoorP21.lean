/- Lemmas for the walk: WK65, WD31, WK66, WK67, WD26, WD30, WK68, WK60. -/
import Derived.Test.YtaacfnngodhecaaGreatDoorP20
import Derived.Test.YtaacfnngodhecaaGreatDoorP19
set_option linter.all false
section
namespace Go.Proofs.YtaacfnngodhecaaGreatDoor
open Go.Tx
set_option maxRecDepth 100000
set_option maxHeartbeats 16000000
def upTo (b : Nat → Bool) (i : Nat) : List PV := (List.range 32).map fun j => .bool (decide (j < i) && b j)
theorem upTo_len (b : Nat → Bool) (i : Nat) : (upTo b i).length = 32 := by simp [upTo]
theorem upTo_set (b : Nat → Bool) (i : Nat) (hi : i < 32) (v : Bool) (hv : v = b i) : (upTo b i).take i ++ [.bool v] ++ (upTo b i).drop (i + 1) = upTo b (i + 1) := by
 have h : (upTo b i).set i (.bool v) = upTo b (i + 1) := by
  apply List.ext_getElem (by simp only [List.length_set, upTo_len])
  intro k h1 h2
  rw [List.getElem_set]
  simp only [upTo, List.getElem_map, List.getElem_range]
  split
  ·subst_vars; simp
  ·have e : decide (k < i) = decide (k < i + 1) := by
    apply decide_eq_decide.2; omega
   rw [e]
 rw [← h, List.set_eq_take_append_cons_drop, if_pos (by rw [upTo_len]; exact hi)]
 simp
theorem upTo_zero (b : Nat → Bool) : upTo b 0 = List.replicate 32 (.bool false) := by
 apply List.ext_getElem (by simp [upTo])
 intro k h1 h2
 simp only [upTo, List.getElem_map, List.getElem_replicate, Nat.not_lt_zero, decide_false, Bool.false_and]
def cstB : List Bool := (List.range 32).map cstN.testBit
theorem cstB_len : cstB.length = 32 := by simp [cstB]
theorem cstB_get {k : Nat} (h : k < 32) : cstB.getD k false = cstN.testBit k := by
 unfold cstB
 rw [List.getD_eq_getElem?_getD, List.getElem?_map, List.getElem?_range h]; rfl
theorem upTo_all (b : Nat → Bool) : upTo b 32 = ((List.range 32).map b).map PV.bool := by
 apply List.ext_getElem (by simp [upTo])
 intro k h1 h2
 have : k < 32 := by simpa [upTo] using h1
 simp [upTo, this]
theorem upTo_cst : upTo cstN.testBit 32 = cstB.map PV.bool := upTo_all _
theorem upTo_nf (b : Nat → Bool) (i : Nat) : nfl (upTo b i) = true := by
 have : upTo b i = ((List.range 32).map fun j => decide (j < i) && b j).map PV.bool := by simp [upTo]
 rw [this]; exact nflB _
theorem bitI (k : Nat) (hk : k < 32) : (Sx.ibits .and .i64 (Int.fdiv 2197175160 (2 ^ min k 64)) 1 == 1) = cstN.testBit k := by
 have h : ∀ k : Nat, k < 32 → (Sx.ibits .and .i64 (Int.fdiv 2197175160 (2 ^ min k 64)) 1 == 1) = cstN.testBit k := by decide
 exact h k hk
theorem rPowers_ok {F : SF} {L nx : Nat} : Con Tryz.prog 159 [.int .i64 2] F L nx nx (.agg (cstB.map PV.bool)) [] [] := by
 have f2 : ((2 : Int) == 2) = true := rfl
 refine bdy Tryz.f159 ?_
 intro F3 hF1 hF2
 simp only [Tryz.f159, cx, f2, go_sem, meths]
 repeat refine sd2 ?_
 refine loopK.intro _ _ (I := fun i : Nat => ⟨[none, none, some (.ptr ⟨L + 1, 0⟩ 0 0), some (.int .i64 2197175160), some (.ptr ⟨L + 1, 160⟩ 0 0), some (.int .i64 i)] ++ oz 15, [(⟨L + 1, 0⟩, .rows 221 32 true true [List.replicate 32 (.bool false)]), (⟨L + 1, 160⟩, .rows 221 32 true true [upTo cstN.testBit i])], 10000 * (i + 1)⟩)
  (pre := fun i => i ≤ 32) (μ := fun i => 32 - i) 0 (by omega) ?_ ?_
 ·refine Sub.of (hfz hF2) (by simp only [go_sem, subT, and_self, Int.natCast_zero]) ?_ (by simp [subK, keys]) (by simp)
  simp [subH, Tx.look, upTo_zero]
 intro i hi
 by_cases hlt : i < 32
 ·have g1 : decide ((i : Int) < 32) = true := dT (by omega)
  have hl := upTo_len cstN.testBit i
  have hb := bitI i hlt
  have hs := upTo_set cstN.testBit i hlt _ rfl
  have wu : IntKind.u64.wrap ((i : Nat) : Int) = (i : Int) := by
   simp [IntKind.wrap, IntKind.signed, IntKind.bits]; omega
  simp only [g1, wu, hb, hs, Nat.mul_one, Nat.add_assoc, go_sem]
  repeat refine sd2 ?_
  refine ⟨i + 1, by omega, by omega, ?_⟩
  refine Sub.o hF2 ?_
  simp only [subH, Tx.look, nm_eq, if_true, if_false, and_true, Nat.reduceEqDiff]
 ·have g1 : decide ((i : Int) < 32) = false := dF (by omega)
  obtain rfl : i = 32 := by omega
  have hl := upTo_len cstN.testBit 32
  have hn := upTo_nf cstN.testBit 32
  simp only [g1, hl, hn, go_sem]
  repeat refine sd2 ?_
  rw [← upTo_cst]
  exact PostF.same (p := True) (.inr rfl) (by simp only [resVal, resVals, resVal1, one, go_sem]) trivial (by simp only [Tx.nf]; exact hn) (by simp [UpdAll])
theorem set_bools (w : List Bool) (k : Nat) (v : Bool) : (w.map eBl).set k [.bool v] = (w.set k v).map eBl := by rw [List.map_set]; rfl
theorem get_bools (w : List Bool) (k : Nat) (h : k < w.length) : (w.map eBl).getD k [] = [.bool (w.getD k false)] := by
 simp [List.getD_eq_getElem?_getD, h, eBl]
theorem get_cst (k : Nat) (h : k < 32) : (cstB.map PV.bool).getD k (.tup []) = .bool (cstN.testBit k) := by
 rw [← cstB_get h]
 simp [List.getD_eq_getElem?_getD, h, cstB_len]
theorem rRest_ok {F : SF} {L nx : Nat} (w : List Bool) (h1 : 32 ≤ w.length) (h2 : w.length ≤ 100000) : Con Tryz.prog 137 [.int .i64 2, .fs 1 (w.map eBl)] F L nx nx (.agg (((dvN w (w.length - 32)).drop (w.length - 32)).map PV.bool)) [] [] := by
 have hcn : nfl (cstB.map PV.bool) = true := nflB _
 have hcl := cstB_len
 have hwl : (w.map eBl).length = w.length := by simp
 refine bdy Tryz.f137 ?_
 intro F3 hF1 hF2
 simp only [Tryz.f137, cx, go_sem, meths]
 repeat refine sd2 ?_
 refine CallVC.same rPowers_ok ?_
 have hdr : List.drop w.length (List.replicate w.length [PV.bool false]) = [] := by simp
 simp only [hcn, hcl, hdr, List.length_map, go_sem]
 repeat refine sd2 ?_
 refine ⟨by simp, ?_⟩
 refine loopK.intro _ _ (I := fun i : Nat => ⟨[some (.int .i64 2), none, none, none, some (.ptr ⟨L + 1, 0⟩ 0 0), some (.ptr ⟨L + 1, 64⟩ 0 0), some (.sl ⟨L + 1, 192⟩ 0 w.length), some (.int .i64 i)] ++ oz 58, [(⟨L + 1, 0⟩, .rows 221 32 true true [List.replicate 32 (.bool false)]), (⟨L + 1, 64⟩, .rows 221 32 true true [cstB.map PV.bool]), (⟨L + 1, 192⟩, .rows 4 1 true true ((dvN w i).map eBl))], 10000 * (50 * i + 1)⟩)
  (pre := fun i => i + 32 ≤ w.length) (μ := fun i => w.length - i) 0 (by omega) ?_ ?_
 ·refine Sub.of (hfz hF2) (by simp only [go_sem, subT, and_self, Int.natCast_zero]) ?_ (by simp [subK, keys]) (by simp)
  simp [subH, Tx.look, dvN]
 intro i hi
 have hdl := dvN_len w i
 obtain ⟨v, hv⟩ : ∃ v, v = dvN w i := ⟨_, rfl⟩
 have hsc : dvN w (i + 1) = dvS v i := by rw [hv]; rfl
 rw [← hv] at hdl ⊢
 have hml : (v.map eBl).length = w.length := by rw [List.length_map, hdl]
 by_cases hlt : i + 32 < w.length
 ·have g1 : decide ((i : Int) + 32 < (w.length : Int)) = true := dT (by omega)
  have gd := get_bools v i (by omega)
  cases hb : v.getD i false with
  | true =>
   rw [hb] at gd
   have hsc' : dvN w (i + 1) = inn v i 32 := by rw [hsc, dvS, hb, if_pos rfl]
   simp only [g1, gd, hml, Nat.add_assoc, go_sem]
   repeat refine sd2 ?_
   refine loopK.intro _ _ (I := fun k : Nat => ⟨[some (.int .i64 2), none, none, none, some (.ptr ⟨L + 1, 0⟩ 0 0), some (.ptr ⟨L + 1, 64⟩ 0 0), some (.sl ⟨L + 1, 192⟩ 0 w.length), some (.int .i64 i), some (.int .i64 k)] ++ oz 57, [(⟨L + 1, 0⟩, .rows 221 32 true true [List.replicate 32 (.bool false)]), (⟨L + 1, 64⟩, .rows 221 32 true true [cstB.map PV.bool]), (⟨L + 1, 192⟩, .rows 4 1 true true ((inn v i k).map eBl))], 10000 * (50 * i + k + 2)⟩)
    (pre := fun k => k ≤ 32) (μ := fun k => 32 - k) 0 (by omega) ?_ ?_
   ·refine Sub.o hF2 ?_
    simp [subH, Tx.look, inn]
   intro k hk
   have hil := inn_len v i k
   obtain ⟨u, hu⟩ : ∃ u, u = inn v i k := ⟨_, rfl⟩
   have hin : inn v i (k + 1) = u.set (i + (1 + k)) (!(u.getD (i + (1 + k)) false == cstN.testBit k)) := by rw [hu, ← Nat.add_assoc]; rfl
   rw [← hu] at hil ⊢
   have hul : (u.map eBl).length = w.length := by rw [List.length_map, hil, hdl]
   by_cases hkl : k < 32
   ·have k1 : decide ((k : Int) < 32) = true := dT (by omega)
    have ki : ((i : Int) + 1 + (k : Int)).toNat = i + (1 + k) := by omega
    have gu := get_bools u (i + (1 + k)) (by omega)
    have gc := get_cst k hkl
    have su := set_bools u (i + (1 + k)) (!(u.getD (i + (1 + k)) false == cstN.testBit k))
    rw [← hin] at su
    simp only [k1, ki, gu, gc, su, hul, Nat.mul_one, Nat.add_assoc, go_sem]
    repeat refine sd2 ?_
    refine ⟨okDyn_num (fun x => x.i) (by kernel_rfl), ?_⟩
    repeat refine sd2 ?_
    refine ⟨k + 1, by omega, by omega, ?_⟩
    refine Sub.o hF2 ?_
    simp only [subH, Tx.look, nm_eq, if_true, if_false, and_true, Nat.reduceEqDiff]
   ·have k1 : decide ((k : Int) < 32) = false := dF (by omega)
    obtain rfl : k = 32 := by omega
    simp only [k1, kS2, Nat.add_assoc, go_sem]
    repeat refine sd2 ?_
    refine ⟨i + 1, by omega, by omega, ?_⟩
    rw [hu, ← hsc']
    refine Sub.o hF2 ?_
    simp [subH, Tx.look]
  | false =>
   rw [hb] at gd
   have hsc' : dvN w (i + 1) = v := by rw [hsc, dvS, hb, if_neg (by simp)]
   simp only [g1, gd, hml, Nat.add_assoc, go_sem]
   repeat refine sd2 ?_
   refine ⟨i + 1, by omega, by omega, ?_⟩
   rw [← hsc']
   refine Sub.o hF2 ?_
   simp [subH, Tx.look]
 ·have g1 : decide ((i : Int) + 32 < (w.length : Int)) = false := dF (by omega)
  have hw : w.length = i + 32 := by omega
  obtain ⟨j, hj⟩ : ∃ j, j = 50 * i := ⟨_, rfl⟩
  have hb32 : ∀ b : Nat → Bool, upTo b 32 = ((List.range 32).map b).map PV.bool := upTo_all
  have hfin : (dvN w (w.length - 32)).drop (w.length - 32) = (List.range 32).map fun k => v.getD (i + k) false := by
   rw [show w.length - 32 = i by omega, ← hv]
   apply List.ext_getElem (by simp; omega)
   intro k h1 h2
   have : k < 32 := by simpa using h2
   simp [List.getD_eq_getElem?_getD, show i + k < v.length by omega]
  rw [hfin, ← hb32, ← hj]
  have h32 : (10000 * (j + 1) = 32) = False := by apply eq_false; omega
  simp only [g1, kS2, Nat.add_assoc, go_sem]
  repeat refine sd2 ?_
  refine loopK.intro _ _ (I := fun k : Nat => ⟨[none, none, none, none, some (.ptr ⟨L + 1, 0⟩ 0 0), none, some (.sl ⟨L + 1, 192⟩ 0 w.length), none, none, some (.ptr ⟨L + 1, 10000 * (j + 1) + 160⟩ 0 0), some (.int .i64 k)] ++ oz 55, [(⟨L + 1, 0⟩, .rows 221 32 true true [List.replicate 32 (.bool false)]), (⟨L + 1, 192⟩, .rows 4 1 true true (v.map eBl)), (⟨L + 1, 10000 * (j + 1) + 160⟩, .rows 221 32 true true [upTo (fun k => v.getD (i + k) false) k])], 10000 * (j + k + 2)⟩)
   (pre := fun k => k ≤ 32) (μ := fun k => 32 - k) 0 (by omega) ?_ ?_
  ·refine Sub.o hF2 ?_
   simp [subH, Tx.look, upTo_zero, h32]
  intro k hk
  have hul := upTo_len (fun k => v.getD (i + k) false) k
  by_cases hkl : k < 32
  ·have k1 : decide ((k : Int) < 32) = true := dT (by omega)
   have ki : ((w.length : Int) - 32 + (k : Int)).toNat = i + k := by omega
   have gu := get_bools v (i + k) (by omega)
   have su := upTo_set (fun k => v.getD (i + k) false) k hkl _ rfl
   simp only [k1, ki, gu, hml, Nat.mul_one, kS2, kS2', Nat.add_assoc, go_sem]
   repeat refine sd2 ?_
   refine ⟨k + 1, by omega, by omega, ?_⟩
   refine Sub.o hF2 ?_
   simp only [subH, Tx.look, nm_eq, if_true, if_false, and_true, Nat.reduceEqDiff, h32, su]
  ·have k1 : decide ((k : Int) < 32) = false := dF (by omega)
   obtain rfl : k = 32 := by omega
   have hn := upTo_nf (fun k => v.getD (i + k) false) 32
   simp only [k1, hul, hn, kS2, kS2', Nat.add_assoc, go_sem]
   repeat refine sd2 ?_
   exact PostF.same (p := True) (.inr rfl) (by simp only [resVal, resVals, resVal1, one, go_sem]) trivial (by simp only [Tx.nf]; exact hn) (by simp [UpdAll])
def flB32 (w : List Bool) (k : Nat) : List Bool := (w.take k).map (!·) ++ w.drop k
theorem flB32_len (w : List Bool) (k : Nat) : (flB32 w k).length = w.length := by simp [flB32]; omega
theorem flB32_get (w : List Bool) (k j : Nat) (hk : k ≤ w.length) : (flB32 w k).getD j false = if j < k then !(w.getD j false) else w.getD j false := by
 unfold flB32
 rw [List.getD_eq_getElem?_getD, List.getD_eq_getElem?_getD, List.getElem?_append]
 have hl : ((w.take k).map (!·)).length = k := by simp; omega
 rw [hl]
 by_cases h : j < k
 ·rw [if_pos h, if_pos h, List.getElem?_map, List.getElem?_take, if_pos h, List.getElem?_eq_getElem (by omega)]; rfl
 ·rw [if_neg h, if_neg h, List.getElem?_drop, show k + (j - k) = j by omega]
theorem flB32_set (w : List Bool) (k : Nat) (hk : k < w.length) : (flB32 w k).set k (!((flB32 w k).getD k false)) = flB32 w (k + 1) := by
 apply List.ext_getElem (by rw [List.length_set, flB32_len, flB32_len])
 intro j h1 h2
 rw [List.length_set, flB32_len] at h1
 have e1 : ∀ (l : List Bool) (h : j < l.length), l[j] = l.getD j false := fun l h => by simp [List.getD_eq_getElem?_getD, h]
 rw [List.getElem_set, e1 (flB32 w (k + 1)) h2, flB32_get w (k + 1) j (by omega), e1 (flB32 w k) (by rw [flB32_len]; exact h1), flB32_get w k j (by omega)]
 simp only [flB32_get w k k (by omega)]
 by_cases h : k = j
 ·subst h; rw [if_pos rfl, if_neg (by omega), if_pos (by omega)]
 ·rw [if_neg h]
  by_cases h3 : j < k
  ·rw [if_pos h3, if_pos (by omega)]
  ·rw [if_neg h3, if_neg (by omega)]
theorem flB32_nb (w : List Bool) (h : 32 ≤ w.length) : nb (flB32 w 32) = nb w ^^^ 4294967295 := by
 apply Nat.eq_of_testBit_eq
 intro i
 rw [Nat.testBit_xor, nb_bit, nb_bit, flB32_get _ _ _ h, show (4294967295 : Nat) = 2 ^ 32 - 1 from rfl, Nat.testBit_two_pow_sub_one]
 by_cases hi : i < 32
 ·rw [if_pos hi]; simp [hi]
 ·rw [if_neg hi]; simp [hi]
theorem nb_zeros : ∀ n, nb (List.replicate n false) = 0
 | 0 => rfl
 | n + 1 => by rw [List.replicate_succ, nb, nb_zeros n]; rfl
theorem turn_xor {x : Nat} (h : x < 2 ^ 32) : 4294967295 - x = 4294967295 ^^^ x := by
 apply Nat.eq_of_testBit_eq
 intro i
 rw [Nat.testBit_xor, show 4294967295 - x = 2 ^ 32 - (x + 1) by omega, Nat.testBit_two_pow_sub_succ h, show (4294967295 : Nat) = 2 ^ 32 - 1 from rfl, Nat.testBit_two_pow_sub_one]
 by_cases hi : i < 32
 ·simp [hi]
 ·have : x.testBit i = false := Nat.testBit_lt_two_pow (Nat.lt_of_lt_of_le h (Nat.pow_le_pow_right (by omega) (by omega)))
  simp [hi, this]
theorem rest_crc (s : List UInt8) : nb ((dvN (flB32 (bitsS s ++ List.replicate 32 false) 32) (8 * s.length)).drop (8 * s.length)) = crcF 4294967295 s := by
 have hl : (bitsS s ++ List.replicate 32 false).length = 8 * s.length + 32 := by rw [List.length_append, bitsS_len, List.length_replicate]
 rw [dvN_nb _ _ (by rw [flB32_len, hl]; omega), flB32_nb _ (by rw [hl]; omega), nb_append, nb_zeros, Nat.mul_zero, Nat.add_zero, crcF_rest]
theorem bits_ones (k : Nat) (h : k < 32) : ((bitsN 4294967295 32).map eBl).getD k [] = [.bool true] := by
 have e : (4294967295 : Nat).testBit k = true := by
  rw [show (4294967295 : Nat) = 2 ^ 32 - 1 from rfl, Nat.testBit_two_pow_sub_one]; simp [h]
 simp [List.getD_eq_getElem?_getD, bitsN, h, e, eBl]
theorem plainPL_bools : ∀ l : List Bool, plainPL (l.map PV.bool) = true
 | [] => rfl
 | b :: l => by simp [plainPL, plainP, plainPL_bools l]
theorem rMore_ok {F : SF} {L nx : Nat} (s : List UInt8) (hs : s.length ≤ 10000) : Con Tryz.prog 106 [.int .i64 2, .int .i64 0, .str s] F L nx nx (.int .i64 (crcN s)) [] [] := by
 have hbl := bitsS_len s
 have hrc := rest_crc s
 have hcl : crcF 4294967295 s < 2 ^ 32 := crcF_lt (by omega)
 have e0 : (4294967295 : Int) - 0 = ((4294967295 : Nat) : Int) := rfl
 have h32 : ((bitsN 4294967295 32).map eBl).length = 32 := by rw [List.length_map, bitsN_len]
 have hml : ((bitsS s).map eBl).length = 8 * s.length := by rw [List.length_map, hbl]
 refine bdy Tryz.f106 ?_
 intro F3 hF1 hF2
 simp only [Tryz.f106, cx, go_sem, meths]
 repeat refine sd2 ?_
 refine CallVC.same (rBits_ok s (by omega)) ?_
 simp only [hml, e0, go_sem]
 repeat refine sd2 ?_
 refine CallVC.same (rCoef_ok 4294967295 (by omega)) ?_
 simp only [go_sem]
 repeat refine sd2 ?_
 obtain ⟨w0, hw0⟩ : ∃ w0, w0 = bitsS s ++ List.replicate 32 false := ⟨_, rfl⟩
 rw [← hw0] at hrc
 have hwl : w0.length = 8 * s.length + 32 := by rw [hw0, List.length_append, hbl, List.length_replicate]
 have hrow : (bitsS s).map eBl ++ List.replicate 32 [.bool false] = w0.map eBl := by rw [hw0, List.map_append, List.map_replicate]; rfl
 refine loopK.intro _ _ (I := fun i : Nat => ⟨[some (.int .i64 2), none, none, none, none, none, none, some (.sl ⟨L + 1, 65⟩ 0 (8 * s.length + 32)), some (.fs 1 ((bitsN 4294967295 32).map eBl)), some (.int .i64 i)] ++ oz 27, [(⟨L + 1, 65⟩, .rows 4 1 true true ((flB32 w0 i).map eBl))], 10000 * (i + 1)⟩)
  (pre := fun i => i ≤ 32) (μ := fun i => 32 - i) 0 (by omega) ?_ ?_
 ·refine Sub.of (hfz hF2) (by simp only [go_sem, subT, and_self, Int.natCast_zero]) ?_ (by simp [subK, keys]) (by simp)
  have hz : flB32 w0 0 = w0 := by simp [flB32]
  rw [hz, ← hrow]
  simp [subH, Tx.look]
 intro i hi
 have hfl := flB32_len w0 i
 obtain ⟨v, hv⟩ : ∃ v, v = flB32 w0 i := ⟨_, rfl⟩
 by_cases hlt : i < 32
 ·have g1 : decide ((i : Int) < 32) = true := dT (by omega)
  have hset := flB32_set w0 i (by omega)
  rw [← hv] at hfl hset ⊢
  have hml2 : (v.map eBl).length = 8 * s.length + 32 := by rw [List.length_map, hfl, hwl]
  have gv := get_bools v i (by omega)
  have gb := bits_ones i hlt
  have su := set_bools v i (!(v.getD i false))
  rw [hset] at su
  have hnt : (v.getD i false == true) = v.getD i false := by cases v.getD i false <;> rfl
  simp only [g1, gv, gb, hnt, su, h32, hml2, Nat.add_assoc, go_sem]
  repeat refine sd2 ?_
  refine ⟨okDyn_num (fun x => x.i) (by kernel_rfl), ?_⟩
  repeat refine sd2 ?_
  refine ⟨i + 1, by omega, by omega, ?_⟩
  refine Sub.o hF2 ?_
  simp [subH, Tx.look]
 ·have g1 : decide ((i : Int) < 32) = false := dF (by omega)
  obtain rfl : i = 32 := by omega
  rw [← hv] at hrc hfl ⊢
  have hml2 : (v.map eBl).length = 8 * s.length + 32 := by rw [List.length_map, hfl, hwl]
  have hR := fun F L nx => rRest_ok (F := F) (L := L) (nx := nx) v (by omega) (by omega)
  have hv32 : v.length - 32 = 8 * s.length := by omega
  rw [hv32] at hR
  have hdl : ((dvN v (8 * s.length)).drop (8 * s.length)).length = 32 := by rw [List.length_drop, dvN_len]; omega
  have hNm := fun F L nx => rNumb_ok (F := F) (L := L) (nx := nx) ((dvN v (8 * s.length)).drop (8 * s.length)) hdl
  rw [hrc] at hNm
  have htk : List.take (8 * s.length + 32) (v.map eBl) = v.map eBl := List.take_of_length_le (by omega)
  have hfin : (4294967295 : Int) - ((crcF 4294967295 s : Nat) : Int) = ((crcN s : Nat) : Int) := by
   unfold crcN; rw [← turn_xor hcl]; omega
  simp only [g1, go_sem]
  repeat refine sd2 ?_
  refine CallVC.pure (args2 := [.int .i64 2, .fs 1 (v.map eBl)]) (by simp [Wk, WkL, htk, hml2]) (hR _ _ _) (by simp only [plainP]; exact plainPL_bools _) ?_
  simp only [wkNL, wkN, go_sem]
  repeat refine sd2 ?_
  refine CallVC.same (hNm _ _ _) ?_
  simp only [hfin, go_sem]
  repeat refine sd2 ?_
  exact PostF.rs (v0 := .int .i64 (crcN s)) (.inr rfl)
theorem rCrc_ok {F : SF} {L nx : Nat} (s : List UInt8) (hs : s.length ≤ 10000) : Con Tryz.prog 62 [.int .i64 2, .str s] F L nx nx (.int .i64 (crcN s)) [] [] := by
 refine bdy Tryz.f62 ?_
 intro F3 hF1 hF2
 simp only [Tryz.f62, cx, go_sem, meths]
 repeat refine sd2 ?_
 refine CallVC.same (rMore_ok s hs) ?_
 simp only [go_sem]
 repeat refine sd2 ?_
 exact PostF.rs (v0 := .int .i64 (crcN s)) (.inr rfl)
theorem take_flat {cs : List Ckx} {i : Nat} (h : i < cs.length) : (cs.take (i + 1)).flatMap ckB = (cs.take i).flatMap ckB ++ ckB cs[i] := by
 rw [List.take_add_one, List.getElem?_eq_getElem h, List.flatMap_append]; simp
theorem rEncode_ok {F : SF} {L nx : Nat} (p : Pkx) (hp : p.ok = true) : Con Tryz.prog 13 [.agg p.row] F L nx nx (.str (encS p)) [] [] := by
 have hp0 := hp
 obtain ⟨hle, h16, h12⟩ := enc_len hp
 unfold Pkx.ok Pkx.hd at hp
 simp only [Bool.and_eq_true, decide_eq_true_eq] at hp
 obtain ⟨⟨⟨⟨⟨⟨p1, p2⟩, p3⟩, p4⟩, p5⟩, p6⟩, p7⟩ := hp
 have hall := List.all_eq_true.1 p6
 have hN : (pkB p).length ≤ 1200 := by rw [pkB_len]; omega
 have hcrc := crcN_lt (sumT (pkB p))
 have hC := fun F L nx => rCrc_ok (F := F) (L := L) (nx := nx) (sumT (pkB p)) (by
  have : (sumT (pkB p)).length = (pkB p).length := by
   have := pkB_len p
   simp [sumT]; omega
  omega)
 obtain ⟨fr, tt, tg, cs⟩ := p
 simp only at p1 p2 p3 p4 p5 p6 p7 hall hN
 obtain ⟨fr, rfl, a2⟩ := serB_ex p1
 obtain ⟨tt, rfl, b2⟩ := serB_ex p2
 obtain ⟨tg, rfl, c2⟩ := serB_ex p3
 have a2' : fr < 65536 := a2
 have b2' : tt < 65536 := b2
 have c2' : tg < 4294967296 := c2
 obtain ⟨hd, ehd⟩ : ∃ t, t = putB 2 fr ++ putB 2 tt ++ putB 4 tg := ⟨_, rfl⟩
 have lhd : hd.length = 8 := by rw [ehd]; simp only [List.length_append, putB_len]
 have hz4 : List.replicate 4 (0 : UInt8) = putB 4 0 := by rfl
 have hz4' : List.replicate 4 (0 : UInt8) = [0, 0, 0, 0] := by rfl
 rw [hz4'] at hz4
 have hpk : pkB ⟨(fr : Int), (tt : Int), (tg : Int), cs⟩ = hd ++ ([0, 0, 0, 0] ++ cs.flatMap ckB) := by
  rw [hz4, ehd]
  simp only [pkB, Int.toNat_natCast, List.append_assoc]
 have hsT : sumT (pkB ⟨(fr : Int), (tt : Int), (tg : Int), cs⟩) = hd ++ [0, 0, 0, 0] ++ cs.flatMap ckB := by
  unfold sumT
  rw [hpk, take_at lhd.symm, drop_at2 (A := hd) (q := 4) (by omega), drop_at (by simp)]
 have hen : encS ⟨(fr : Int), (tt : Int), (tg : Int), cs⟩ = hd ++ le4 (crcN (hd ++ [0, 0, 0, 0] ++ cs.flatMap ckB)) ++ cs.flatMap ckB := by
  unfold encS sumS
  rw [hsT, hpk, take_at lhd.symm, drop_at2 (A := hd) (q := 4) (by omega), drop_at (by simp)]
 rw [hsT] at hC hcrc
 rw [hen]
 obtain ⟨c, hc⟩ : ∃ c, c = crcN (hd ++ [0, 0, 0, 0] ++ cs.flatMap ckB) := ⟨_, rfl⟩
 rw [← hc] at hC hcrc ⊢
 have q1 := fun F L nx => rPut_ok (F := F) (L := L) (nx := nx) 2 fr (by omega) (by omega)
 have q2 := fun F L nx => rPut_ok (F := F) (L := L) (nx := nx) 2 tt (by omega) (by omega)
 have q3 := fun F L nx => rPut_ok (F := F) (L := L) (nx := nx) 4 tg (by omega) (by omega)
 have q4 := fun F L nx => rZeros_ok (F := F) (L := L) (nx := nx) 4 (by omega)
 have h4c : putB 4 c = [byN (c / 16777216), byN (c / 65536), byN (c / 256), byN c] := by simp [putB_succ, show putB 0 c = [] from rfl]
 obtain ⟨b0, hb0⟩ : ∃ b, b = byN c := ⟨_, rfl⟩
 obtain ⟨b1, hb1⟩ : ∃ b, b = byN (c / 256) := ⟨_, rfl⟩
 obtain ⟨b2, hb2⟩ : ∃ b, b = byN (c / 65536) := ⟨_, rfl⟩
 obtain ⟨b3, hb3⟩ : ∃ b, b = byN (c / 16777216) := ⟨_, rfl⟩
 rw [← hb0, ← hb1, ← hb2, ← hb3] at h4c
 have hl4 : le4 c = [b0, b1, b2, b3] := by rw [hb0, hb1, hb2, hb3]; rfl
 rw [hl4]
 have q5 := fun F L nx => rPut_ok (F := F) (L := L) (nx := nx) 4 c (by omega) (by omega)
 refine bdy Tryz.f13 ?_
 intro F3 hF1 hF2
 simp only [Tryz.f13, cx, Pkx.row, Nat.add_zero, go_sem, meths]
 repeat refine sd2 ?_
 refine CallVC.same (q1 _ _ _) ?_
 simp only [go_sem]
 repeat refine sd2 ?_
 refine CallVC.same (q2 _ _ _) ?_
 simp only [putB_len, go_sem]
 repeat refine sd2 ?_
 refine CallVC.same (q3 _ _ _) ?_
 simp only [← ehd, putB_len, List.length_append, go_sem]
 repeat refine sd2 ?_
 refine ⟨okDyn_num (fun x => x.i) (by kernel_rfl), ?_⟩
 refine loopK.intro _ _ (I := fun i : Nat => ⟨[none, some (.ptr ⟨L + 1, 0⟩ 0 0), none, some (.str hd), some (.str ((cs.take i).flatMap ckB)), some (.int .i64 i)] ++ oz 66, [(⟨L + 1, 0⟩, .rows 24 4 true true [[.int .i64 fr, .int .i64 tt, .int .i64 tg, .fs 3 (cs.map Ckx.row)]])], 10000 * (i + 1)⟩)
  (pre := fun i => i ≤ cs.length) (μ := fun i => cs.length - i) 0 (by omega) ?_ ?_
 ·refine Sub.of (hfz hF2) (by simp only [go_sem, subT, and_self, Int.natCast_zero, List.take_zero, List.flatMap_nil]) ?_ (by simp [subK, keys]) (by simp)
  simp [subH, Tx.look]
 intro i hi
 obtain ⟨t, ht⟩ : ∃ t, t = (cs.take i).flatMap ckB := ⟨_, rfl⟩
 have htl : t.length ≤ 1188 := by
  have h1 : cs.flatMap ckB = t ++ (cs.drop i).flatMap ckB := by rw [ht, ← List.flatMap_append, List.take_append_drop]
  have h2 := ckBs_len cs
  rw [h1, List.length_append] at h2
  omega
 by_cases hlt : i < cs.length
 ·have g1 : decide ((i : Int) < (cs.length : Int)) = true := dT (by omega)
  have r0 := rowCk hlt
  have tk := take_flat hlt
  obtain ⟨c, hc9⟩ : ∃ c, c = cs[i] := ⟨_, rfl⟩
  have hok := hall c (by rw [hc9]; exact List.getElem_mem _)
  rw [← hc9] at r0 tk
  rw [← ht] at tk ⊢
  unfold Ckx.ok at hok
  simp only [Bool.and_eq_true, decide_eq_true_eq] at hok
  obtain ⟨⟨k1, k2⟩, k3⟩ := hok
  obtain ⟨e1, b1⟩ := serB8n k1
  obtain ⟨e2, b3⟩ := serB8n k2
  obtain ⟨kd, fl, bd⟩ := c
  simp only at e1 b1 e2 b3 k3 r0 tk
  obtain ⟨kd, rfl⟩ : ∃ n : Nat, kd = n := ⟨_, e1⟩
  obtain ⟨fl, rfl⟩ : ∃ n : Nat, fl = n := ⟨_, e2⟩
  simp only [Int.toNat_natCast] at b1 b3
  have w1 := fun F L nx => rPut_ok (F := F) (L := L) (nx := nx) 1 kd (by omega) (by omega)
  have w2 := fun F L nx => rPut_ok (F := F) (L := L) (nx := nx) 1 fl (by omega) (by omega)
  have w3 := fun F L nx => rPut_ok (F := F) (L := L) (nx := nx) 2 (4 + bd.length) (by omega) (by omega)
  have w4 := fun F L nx => rPad_ok (F := F) (L := L) (nx := nx) bd (by omega)
  have e4 : (4 : Int) + (bd.length : Int) = ((4 + bd.length : Nat) : Int) := by omega
  have hpl := padS_len bd
  have hck : ckB ⟨(kd : Int), (fl : Int), bd⟩ = putB 1 kd ++ putB 1 fl ++ putB 2 (4 + bd.length) ++ padS bd := by
   simp only [ckB, Int.toNat_natCast]
  rw [hck] at tk
  simp only [g1, r0, Ckx.row, List.length_map, Int.toNat_natCast, kS2, Nat.add_assoc, Nat.add_zero, go_sem]
  repeat refine sd2 ?_
  refine CallVC.same (w1 _ _ _) ?_
  simp only [putB_len, kS2, Nat.add_assoc, go_sem]
  repeat refine sd2 ?_
  refine CallVC.same (w2 _ _ _) ?_
  simp only [e4, putB_len, List.length_append, kS2, Nat.add_assoc, go_sem]
  repeat refine sd2 ?_
  refine CallVC.same (w3 _ _ _) ?_
  simp only [putB_len, List.length_append, kS2, Nat.add_assoc, go_sem]
  repeat refine sd2 ?_
  refine CallVC.same (w4 _ _ _) ?_
  simp only [hpl, putB_len, List.length_append, Nat.add_assoc, go_sem]
  repeat refine sd2 ?_
  refine ⟨okDyn_num (fun x => x.i % 10000) (by simp only [numF, List.map, Nat.mul_add_mod, Nat.reduceMod]; kernel_rfl), ?_⟩
  repeat refine sd2 ?_
  refine ⟨i + 1, by omega, by omega, ?_⟩
  have e9 : t ++ putB 1 kd ++ putB 1 fl ++ putB 2 (4 + bd.length) ++ padS bd = (cs.take (i + 1)).flatMap ckB := by rw [tk]; simp only [List.append_assoc]
  rw [e9]
  refine Sub.o hF2 ?_
  simp [subH, Tx.look]
 ·have g1 : decide ((i : Int) < (cs.length : Int)) = false := dF (by omega)
  obtain rfl : i = cs.length := by omega
  rw [List.take_length] at ht ⊢
  rw [← ht] at hc hC ⊢
  simp only [g1, List.length_map, Nat.add_assoc, go_sem]
  repeat refine sd2 ?_
  refine CallVC.same (q4 _ _ _) ?_
  simp only [lhd, List.length_append, Nat.add_assoc, go_sem]
  repeat refine sd2 ?_
  refine CallVC.same (hC _ _ _) ?_
  simp only [go_sem]
  repeat refine sd2 ?_
  refine CallVC.same (q5 _ _ _) ?_
  simp only [h4c, lhd, List.length_append, Nat.add_assoc, go_sem]
  repeat refine sd2 ?_
  refine ⟨okDyn_num (fun x => x.i) (by kernel_rfl), ?_⟩
  have e9 : hd ++ [b0] ++ [b1] ++ [b2] ++ [b3] ++ t = hd ++ [b0, b1, b2, b3] ++ t := by simp
  rw [e9]
  exact PostF.rs (v0 := .str (hd ++ [b0, b1, b2, b3] ++ t)) (.inr rfl)
def upN (n : Nat) : Nat := (n + 3) / 4 * 4
theorem ckNx_up (p n : Nat) : ckNx p n = p + upN n := by unfold ckNx upN; omega
def rksF (s : List UInt8) : Nat → Nat → Option (List Ckx)
 | 0, _ => none
 | f + 1, p => if p + 4 ≤ s.length then (if lnAt s p < 4 ∨ s.length < p + lnAt s p then none else (rksF s f (p + upN (lnAt s p))).map (ckOf s p (lnAt s p) :: ·)) else some []
def rdG (s : List UInt8) : Option Pkx := (rksF s 2000 12).bind fun cs => if (pkG s cs).ok && encS (pkG s cs) == s then some (pkG s cs) else none
theorem rks_of_cks {s : List UInt8} : ∀ {f p : Nat} {cs : List Ckx}, cksF s f p = some cs → rksF s f p = some cs
 | 0, _, _, h => by cases h
 | f + 1, p, cs, h => by
  unfold cksF at h
  unfold rksF
  split at h
  ·rename_i he
   rw [if_neg (by omega)]; exact h
  ·split at h
   ·rename_i hg
    unfold ckGood at hg
    simp only [Bool.and_eq_true, decide_eq_true_eq] at hg
    obtain ⟨a1, a2, a3, a4⟩ := hg
    rw [if_pos a1, if_neg (by omega), ← ckNx_up]
    cases hq : cksF s f (ckNx p (lnAt s p)) with
    | none => rw [hq] at h; cases h
    | some l => rw [hq] at h; rw [rks_of_cks hq]; exact h
   ·cases h
theorem take_split (s : List UInt8) (p a b : Nat) : (s.drop p).take (a + b) = (s.drop p).take a ++ (s.drop (p + a)).take b := by
 rw [List.take_add, List.drop_drop]
theorem putB_get {s : List UInt8} {p n : Nat} (h : p + n ≤ s.length) : putB n (getB ((s.drop p).take n)) = (s.drop p).take n := by
 have := putB_getB ((s.drop p).take n)
 rwa [show ((s.drop p).take n).length = n by rw [List.length_take, List.length_drop]; omega] at this
theorem ckB_read {s : List UInt8} {p : Nat} (h : ckGood s p = true) : ckB (ckOf s p (lnAt s p)) = (s.drop p).take (upN (lnAt s p)) := by
 unfold ckGood at h
 simp only [Bool.and_eq_true, decide_eq_true_eq] at h
 obtain ⟨a1, a2, a3, a4⟩ := h
 have e3 : putB 2 (lnAt s p) = (s.drop (p + 2)).take 2 := putB_get (by omega)
 obtain ⟨n, hn⟩ : ∃ n, n = lnAt s p := ⟨_, rfl⟩
 rw [← hn] at a2 a3 a4 e3 ⊢
 have hz : (s.drop (p + n)).take ((4 - n % 4) % 4) = zer ((4 - n % 4) % 4) := by
  unfold zer
  refine List.eq_replicate_iff.2 ⟨by rw [List.length_take, List.length_drop]; omega, fun b hb => ?_⟩
  have := List.all_eq_true.1 a4 b hb
  simpa using this
 have e1 : putB 1 (getB ((s.drop p).take 1)) = (s.drop p).take 1 := putB_get (by omega)
 have e2 : putB 1 (getB ((s.drop (p + 1)).take 1)) = (s.drop (p + 1)).take 1 := putB_get (by omega)
 have hbd : ((s.drop (p + 4)).take (n - 4)).length = n - 4 := by rw [List.length_take, List.length_drop]; omega
 unfold ckB ckOf
 simp only [Int.toNat_natCast, e1, e2, hbd, padS]
 rw [show 4 + (n - 4) = n by omega, e3, show (4 - (n - 4) % 4) % 4 = (4 - n % 4) % 4 by omega, ← hz]
 have hu : upN n = 1 + (1 + (2 + ((n - 4) + (4 - n % 4) % 4))) := by unfold upN; omega
 rw [hu, take_split, take_split, take_split, take_split, show p + 1 + 1 = p + 2 by omega, show p + 2 + 2 = p + 4 by omega, show p + 4 + (n - 4) = p + n by omega]
 simp only [List.append_assoc]
theorem cks_bytes {s : List UInt8} : ∀ {f p : Nat} {cs : List Ckx}, p ≤ s.length → cksF s f p = some cs → cs.flatMap ckB = s.drop p
 | 0, _, _, _, h => by cases h
 | f + 1, p, cs, hp, h => by
  unfold cksF at h
  split at h
  ·rename_i he
   injection h with h; subst h
   rw [List.drop_of_length_le (by omega)]; rfl
  ·split at h
   ·rename_i hg
    cases hq : cksF s f (ckNx p (lnAt s p)) with
    | none => rw [hq] at h; cases h
    | some l =>
     rw [hq] at h
     simp only [Option.map_some, Option.some.injEq] at h
     subst h
     have hk : ckNx p (lnAt s p) ≤ s.length := by
      unfold ckGood at hg
      simp only [Bool.and_eq_true, decide_eq_true_eq] at hg
      unfold ckNx
      exact hg.2.2.1
     rw [List.flatMap_cons, ckB_read hg, cks_bytes hk hq, ckNx_up, ← List.drop_drop, List.take_append_drop]
   ·cases h
theorem sumS_sumT {s : List UInt8} (h : 12 ≤ s.length) : sumS (sumT s) = sumS s := by
 have h8 : (s.take 8).length = 8 := by rw [List.length_take]; omega
 have hT : sumT (sumT s) = sumT s := by
  have e : sumT s = s.take 8 ++ ([0, 0, 0, 0] ++ s.drop 12) := by unfold sumT; rw [List.append_assoc]
  have a : (sumT s).take 8 = s.take 8 := by rw [e, take_at h8.symm]
  have b : (sumT s).drop 12 = s.drop 12 := by rw [e, drop_at2 (A := s.take 8) (q := 4) (by omega), drop_at (by rfl)]
  have u : ∀ t : List UInt8, sumT t = t.take 8 ++ [0, 0, 0, 0] ++ t.drop 12 := fun t => rfl
  rw [u (sumT s), a, b, ← u s]
 have e : sumT s = s.take 8 ++ ([0, 0, 0, 0] ++ s.drop 12) := by unfold sumT; rw [List.append_assoc]
 have a : (sumT s).take 8 = s.take 8 := by rw [e, take_at h8.symm]
 have b : (sumT s).drop 12 = s.drop 12 := by rw [e, drop_at2 (A := s.take 8) (q := 4) (by omega), drop_at (by rfl)]
 have u : ∀ t : List UInt8, sumS t = t.take 8 ++ le4 (crcN (sumT t)) ++ t.drop 12 := fun t => rfl
 rw [u (sumT s), hT, a, b, ← u s]
theorem dec_bytes {s : List UInt8} {cs : List Ckx} {f : Nat} (h16 : 16 ≤ s.length) (hc : cksF s f 12 = some cs) (hs : sumS s = s) : encS (pkG s cs) = s := by
 have hb := cks_bytes (p := 12) (by omega) hc
 have e : pkB (pkG s cs) = sumT s := by
  unfold pkB pkG
  simp only [Int.toNat_natCast, hb]
  have p1 : putB 2 (getB (s.take 2)) = s.take 2 := by
   have := putB_get (s := s) (p := 0) (n := 2) (by omega)
   simpa using this
  rw [p1, putB_get (by omega), putB_get (by omega)]
  have z : putB 4 0 = [0, 0, 0, 0] := by rfl
  rw [z]
  unfold sumT
  have t8 : s.take 8 = s.take 2 ++ ((s.drop 2).take 2 ++ (s.drop 4).take 4) :=
   (show s.take 8 = s.take 2 ++ (s.drop 2).take 6 from take_split s 0 2 6).trans (congrArg _ (show (s.drop 2).take 6 = (s.drop 2).take 2 ++ (s.drop 4).take 4 from take_split s 2 2 4))
  rw [t8]
  simp only [List.append_assoc]
 unfold encS
 rw [e, sumS_sumT (by omega), hs]
theorem rdF_eq {s : List UInt8} {f : Nat} (h16 : 16 ≤ s.length) (hd : ∀ p, p.ok = true → encS p = s → ((cksF s f 12).bind fun cs => if (pkG s cs).ok && sumS s == s then some (pkG s cs) else none) = some p) :
  ((rksF s f 12).bind fun cs => if (pkG s cs).ok && encS (pkG s cs) == s then some (pkG s cs) else none) = ((cksF s f 12).bind fun cs => if (pkG s cs).ok && sumS s == s then some (pkG s cs) else none) := by
 cases hr : rksF s f 12 with
 | none =>
  cases hc : cksF s f 12 with
  | none => rw [Option.bind_none, Option.bind_none]
  | some cs => rw [rks_of_cks hc] at hr; cases hr
 | some cs =>
  rw [Option.bind_some]
  by_cases hok : ((pkG s cs).ok && encS (pkG s cs) == s) = true
  ·rw [if_pos hok]
   simp only [Bool.and_eq_true, beq_iff_eq] at hok
   exact (hd _ hok.1 hok.2).symm
  ·rw [if_neg hok]
   cases hc : cksF s f 12 with
   | none => rw [Option.bind_none]
   | some cs' =>
    rw [rks_of_cks hc] at hr
    injection hr with hr; subst hr
    rw [Option.bind_some]
    by_cases h2 : ((pkG s cs').ok && sumS s == s) = true
    ·exfalso
     apply hok
     simp only [Bool.and_eq_true, beq_iff_eq] at h2 ⊢
     exact ⟨h2.1, dec_bytes h16 hc h2.2⟩
    ·rw [if_neg h2]
theorem rdG_eq {s : List UInt8} (h16 : 16 ≤ s.length) : rdG s = decG s :=
 rdF_eq h16 fun p hp he => by
  have := dec_enc hp
  rw [he] at this
  exact this
def decV : Option Pkx → PV
 | some p => .tup [.agg p.row, .int .i64 0]
 | none => .tup [.agg [.int .i64 0, .int .i64 0, .int .i64 0, .nilS], .int .i64 5]
theorem rDecodeLong_ok {F : SF} {L nx : Nat} (s : List UInt8) (h1 : 1200 < s.length) (hl : s.length ≤ 1000000) : Con Tryz.prog 18 [.str s] F L nx nx (.tup [.agg [.int .i64 0, .int .i64 0, .int .i64 0, .nilS], .int .i64 3]) [] [] := by
 have g1 : decide ((1200 : Int) < (s.length : Int)) = true := dT (by omega)
 refine bdy Tryz.f18 ?_
 intro F3 hF1 hF2
 simp only [Tryz.f18, cx, g1, go_sem, meths]
 repeat refine sd2 ?_
 exact PostF.rs (v0 := .tup [.agg [.int .i64 0, .int .i64 0, .int .i64 0, .nilS], .int .i64 3] ) (.inr rfl)
theorem rDecodeShort_ok {F : SF} {L nx : Nat} (s : List UInt8) (h1 : s.length < 16) : Con Tryz.prog 18 [.str s] F L nx nx (.tup [.agg [.int .i64 0, .int .i64 0, .int .i64 0, .nilS], .int .i64 7]) [] [] := by
 have g1 : decide ((1200 : Int) < (s.length : Int)) = false := dF (by omega)
 have g2 : decide ((s.length : Int) < 16) = true := dT (by omega)
 refine bdy Tryz.f18 ?_
 intro F3 hF1 hF2
 simp only [Tryz.f18, cx, g1, g2, go_sem, meths]
 repeat refine sd2 ?_
 exact PostF.rs (v0 := .tup [.agg [.int .i64 0, .int .i64 0, .int .i64 0, .nilS], .int .i64 7] ) (.inr rfl)
theorem rks_step {s : List UInt8} {f p : Nat} (hf : 0 < f) : rksF s f p = if p + 4 ≤ s.length then (if lnAt s p < 4 ∨ s.length < p + lnAt s p then none else (rksF s (f - 1) (p + upN (lnAt s p))).map (ckOf s p (lnAt s p) :: ·)) else some [] := by
 cases f with
 | zero => omega
 | succ f => rfl
theorem getB_one {s : List UInt8} {p : Nat} (h : p < s.length) : getB ((s.drop p).take 1) = (s.getD p 0).toNat := by
 rw [List.drop_eq_getElem_cons h, List.take_succ_cons, List.take_zero, getB_cons]
 simp [getB, List.getD_eq_getElem?_getD, h]
theorem rDecode_ok {F : SF} {L nx : Nat} (s : List UInt8) (h1 : s.length ≤ 1200) (h2 : 16 ≤ s.length) : Con Tryz.prog 18 [.str s] F L nx nx (decV (rdG s)) [] [] := by
 have g1 : decide ((1200 : Int) < (s.length : Int)) = false := dF (by omega)
 have g2 : decide ((s.length : Int) < 16) = false := dF (by omega)
 obtain ⟨N, hN⟩ : ∃ N, N = 2000 := ⟨_, rfl⟩
 have hrd : rdG s = (rksF s N 12).bind fun cs => if (pkG s cs).ok && encS (pkG s cs) == s then some (pkG s cs) else none := by rw [hN]; rfl
 rw [hrd]
 have n1 := fun F L nx => rNumber_ok (F := F) (L := L) (nx := nx) (s.take 2) (by rw [List.length_take]; omega)
 have n2 := fun F L nx => rNumber_ok (F := F) (L := L) (nx := nx) ((s.drop 2).take 2) (by rw [List.length_take]; omega)
 have n3 := fun F L nx => rNumber_ok (F := F) (L := L) (nx := nx) ((s.drop 4).take 4) (by rw [List.length_take]; omega)
 obtain ⟨a, ha⟩ : ∃ a, a = getB (s.take 2) := ⟨_, rfl⟩
 obtain ⟨b, hb⟩ : ∃ b, b = getB ((s.drop 2).take 2) := ⟨_, rfl⟩
 obtain ⟨g, hg⟩ : ∃ g, g = getB ((s.drop 4).take 4) := ⟨_, rfl⟩
 rw [← ha] at n1
 rw [← hb] at n2
 rw [← hg] at n3
 refine bdy Tryz.f18 ?_
 intro F3 hF1 hF2
 simp only [Tryz.f18, cx, g1, g2, go_sem, meths]
 repeat refine sd2 ?_
 refine CallVC.same (n1 _ _ _) ?_
 simp only [go_sem]
 repeat refine sd2 ?_
 refine CallVC.same (n2 _ _ _) ?_
 simp only [go_sem]
 repeat refine sd2 ?_
 refine CallVC.same (n3 _ _ _) ?_
 simp only [go_sem]
 repeat refine sd2 ?_
 refine ⟨okDyn_num (fun x => x.i) (by kernel_rfl), ?_⟩
 refine loopK.intro _ _ (I := fun z : List Ckx × Nat × Nat => ⟨[some (.str s), none, some (.ptr ⟨L + 1, 0⟩ 0 0), none, some (.ptr ⟨L + 1, 480⟩ 0 0), some (.int .i64 z.2.1)] ++ oz 79,
  [(⟨L + 1, 0⟩, .rows 24 4 true true [[.int .i64 0, .int .i64 0, .int .i64 0, .nilS]]), (⟨L + 1, 480⟩, .rows 24 4 true false [[.int .i64 a, .int .i64 b, .int .i64 g, .sl ⟨L + 1, z.2.2⟩ 0 z.1.length]]), (⟨L + 1, z.2.2⟩, .rows 34 3 true true (z.1.map Ckx.row))], 10000 * (z.1.length + 1)⟩)
  (pre := fun z => 12 + 4 * z.1.length ≤ z.2.1 ∧ z.2.1 ≤ s.length + 3 ∧ 576 ≤ z.2.2 ∧ z.2.2 < 10000 * (z.1.length + 1) ∧ rksF s N 12 = (rksF s (N - z.1.length) z.2.1).map (z.1 ++ ·) ∧ ∀ c ∈ z.1, c.bd.length ≤ 1200) (μ := fun z => s.length + 4 - z.2.1) ([], 12, 576) ⟨by simp, by simp only []; omega, by simp, by simp, by simp, by simp⟩ ?_ ?_
 ·refine Sub.trans (Sub.nilCell (n := ⟨L + 1, 480⟩) (e := 24) (e2 := 34) (wd := 4) (wd2 := 3) (o := true) (p := true) (row := [.int .i64 a, .int .i64 b, .int .i64 g, .nilS]) (row1 := [.int .i64 a, .int .i64 b, .int .i64 g, .sl ⟨L + 1, 576⟩ 0 0]) (by omega) (by simp [Tx.look]) (by simp) rfl ?_) ?_
  ·intro k
   rcases k with _ | _ | _ | _ | k
   ·exact .inl rfl
   ·exact .inl rfl
   ·exact .inl rfl
   ·exact .inr ⟨rfl, rfl⟩
   ·exact .inl rfl
  ·refine Sub.of (hfz hF2) (by simp only [go_sem, subT]; try trivial) ?_ ?_ ?_
   ·simp [subH, Tx.look, updH, setH]
   ·simp [subK, keys, updH, setH]
   ·simp
 rintro ⟨cs, p, q⟩ ⟨hp1, hp2, hq0, hq, hR, hbd⟩
 simp only at hp1 hp2 hq0 hq hR hbd ⊢
 obtain ⟨i, hi⟩ : ∃ i, i = cs.length := ⟨_, rfl⟩
 have hcm : (cs.map Ckx.row).length = i := by rw [List.length_map, hi]
 rw [← hi] at hp1 hq hR ⊢
 have hNi : 0 < N - i := by omega
 rw [rks_step hNi] at hR
 have q_0 : (q = 0) = False := by apply eq_false; omega
 have n0_q : (0 = q) = False := by apply eq_false; omega
 have q_480 : (q = 480) = False := by apply eq_false; omega
 have n480_q : (480 = q) = False := by apply eq_false; omega
 obtain ⟨q_n1, q_n2, q_n3, q_n4, q_n5⟩ := nqL L (i := i) (p := q) (by omega)
 by_cases hlt : p + 4 ≤ s.length
 ·have f1 : decide ((p : Int) + 4 ≤ (s.length : Int)) = true := dT (by omega)
  rw [if_pos hlt] at hR
  have hlb : lnAt s p < 65536 := by
   have := getB_lt ((s.drop (p + 2)).take 2)
   have hl2 : ((s.drop (p + 2)).take 2).length = 2 := by rw [List.length_take, List.length_drop]; omega
   rw [hl2] at this
   exact this
  have nn := fun F L nx => rNumber_ok (F := F) (L := L) (nx := nx) ((s.drop (p + 2)).take 2) (by rw [List.length_take]; omega)
  obtain ⟨n, hn⟩ : ∃ n, n = lnAt s p := ⟨_, rfl⟩
  have nn' : ∀ F L nx, Con Tryz.prog 76 [.str ((s.drop (p + 2)).take 2)] F L nx nx (.int .i64 n) [] [] := by rw [hn]; exact nn
  rw [← hn] at hR hlb
  have kp : ((p : Int) + 2).toNat = p + 2 := by omega
  have kp4 : ((p : Int) + 4).toNat - (p + 2) = 2 := by omega
  simp only [f1, kp, kp4, Nat.add_assoc, go_sem]
  repeat refine sd2 ?_
  refine CallVC.same (nn' _ _ _) ?_
  by_cases c1 : n < 4
  ·have d1 : decide ((n : Int) < 4) = true := dT (by omega)
   rw [if_pos (.inl c1)] at hR
   rw [hR]
   simp only [d1, n0_q, Nat.add_assoc, go_sem]
   repeat refine sd2 ?_
   show PostF _ _ _ _ (.tup [.agg [.int .i64 0, .int .i64 0, .int .i64 0, .nilS], .int .i64 5]) _ _ _
   exact PostF.rs (v0 := .tup [.agg [.int .i64 0, .int .i64 0, .int .i64 0, .nilS], .int .i64 5] ) (.inr rfl)
  have d1 : decide ((n : Int) < 4) = false := dF (by omega)
  by_cases c2 : s.length < p + n
  ·have d2 : decide ((s.length : Int) < (p : Int) + (n : Int)) = true := dT (by omega)
   rw [if_pos (.inr c2)] at hR
   rw [hR]
   simp only [d1, d2, n0_q, Nat.add_assoc, go_sem]
   repeat refine sd2 ?_
   show PostF _ _ _ _ (.tup [.agg [.int .i64 0, .int .i64 0, .int .i64 0, .nilS], .int .i64 5]) _ _ _
   exact PostF.rs (v0 := .tup [.agg [.int .i64 0, .int .i64 0, .int .i64 0, .nilS], .int .i64 5] ) (.inr rfl)
  have d2 : decide ((s.length : Int) < (p : Int) + (n : Int)) = false := dF (by omega)
  rw [if_neg (by omega)] at hR
  have u1 := fun F L nx => rUp_ok (F := F) (L := L) (nx := nx) n (by omega)
  have kn : ((p : Int) + (n : Int)).toNat - (p + 4) = n - 4 := by omega
  have kq : ((p : Int) + 4).toNat = p + 4 := by omega
  have kr : ((p : Int) + 1).toNat = p + 1 := by omega
  obtain ⟨x0, hx0⟩ : ∃ x, x = (s.getD p 0).toNat := ⟨_, rfl⟩
  obtain ⟨x1, hx1⟩ : ∃ x, x = (s.getD (p + 1) 0).toNat := ⟨_, rfl⟩
  have l0 : x0 < 256 := by rw [hx0]; exact UInt8.toNat_lt _
  have l1 : x1 < 256 := by rw [hx1]; exact UInt8.toNat_lt _
  have hck : ckOf s p n = ⟨x0, x1, (s.drop (p + 4)).take (n - 4)⟩ := by
   unfold ckOf
   rw [getB_one (by omega), getB_one (by omega), ← hx0, ← hx1]
  obtain ⟨bd, hbd9⟩ : ∃ bd, bd = (s.drop (p + 4)).take (n - 4) := ⟨_, rfl⟩
  have hbl : bd.length ≤ 1200 := by rw [hbd9, List.length_take, List.length_drop]; omega
  rw [← hbd9] at hck
  have hup : (p : Int) + (((n + 3) / 4 * 4 : Nat) : Int) = ((p + upN n : Nat) : Int) := by unfold upN; omega
  simp only [d1, d2, kn, kq, kr, hcm, ← hx0, ← hx1, ← hbd9, q_0, q_480, n480_q, q_n1, q_n2, q_n5, kS2, kS2', kS3, Nat.add_assoc, go_sem]
  repeat refine sd2 ?_
  refine ⟨okDyn_num (fun x => if x.i = q then 1 else if x.i = 480 then 2 else x.i % 10000 + 100) (by simp only [numF, List.map, q_480, n480_q, q_n1, Nat.reduceEqDiff, if_true, if_false, Nat.mul_add_mod, Nat.reduceMod]; kernel_rfl), ?_⟩
  refine CallVC.same (u1 _ _ _) ?_
  simp only [hup, Nat.add_assoc, go_sem]
  repeat refine sd2 ?_
  have hl1 : (cs ++ [(⟨x0, x1, bd⟩ : Ckx)]).length = i + 1 := by rw [List.length_append, ← hi]; rfl
  have hrow : cs.map Ckx.row ++ [[.int .i64 x0, .int .i64 x1, .str bd]] = (cs ++ [(⟨x0, x1, bd⟩ : Ckx)]).map Ckx.row := by rw [List.map_append]; rfl
  refine ⟨(cs ++ [⟨x0, x1, bd⟩], p + upN n, 10000 * (i + 1) + 1344), ⟨by simp only [hl1]; unfold upN; omega, by simp only []; unfold upN; omega, by simp only []; omega, by simp only [hl1]; omega, ?_, ?_⟩, by simp only []; unfold upN; omega, ?_⟩
  ·simp only [hl1]
   rw [hR, hck, Option.map_map, show N - (i + 1) = N - i - 1 by omega]
   congr 1
   funext l
   simp
  ·intro c hc
   rcases List.mem_append.1 hc with h | h
   ·exact hbd c h
   ·simp only [List.mem_cons, List.not_mem_nil, or_false] at h
    rw [h]; exact hbl
  simp only [hl1]
  refine Sub.o hF2 ?_
  simp [subH, Tx.look, ← hrow, q_n1, nB, kS2]
 ·have f1 : decide ((p : Int) + 4 ≤ (s.length : Int)) = false := dF (by omega)
  rw [if_neg hlt] at hR
  rw [hR]
  have hRR := fun F L nx => rRight_ok (F := F) (L := L) (nx := nx) (pkG s cs) (by show cs.length ≤ maxLen; unfold maxLen; omega) (fun c hc => by have := hbd c hc; unfold maxLen; omega)
  have hpk : pkG s cs = ⟨a, b, g, cs⟩ := by rw [ha, hb, hg]; rfl
  rw [Option.map_some, Option.bind_some, List.append_nil]
  rw [hpk] at hRR ⊢
  have htk : List.take i (cs.map Ckx.row) = cs.map Ckx.row := List.take_of_length_le (by omega)
  have hwk : wkN (.agg [.int .i64 a, .int .i64 b, .int .i64 g, .sl ⟨L + 1, q⟩ 0 i]) (.agg (Pkx.row ⟨a, b, g, cs⟩)) = [⟨L + 1, q⟩] := by simp [Pkx.row, wkN, wkNL]
  simp only [f1, n480_q, Nat.add_assoc, go_sem]
  repeat refine sd2 ?_
  refine CallVC.pure (args2 := [.agg (Pkx.row ⟨a, b, g, cs⟩)]) (by simp [Pkx.row, Wk, WkL, hi, List.take_of_length_le, q_0, q_480]) (hRR _ _ _) rfl ?_
  cases hok : Pkx.ok ⟨a, b, g, cs⟩ with
  | false =>
   rw [Bool.false_and, if_neg (by simp)]
   simp only [hwk, wkNL, n0_q, Nat.add_assoc, go_sem]
   repeat refine sd2 ?_
   show PostF _ _ _ _ (.tup [.agg [.int .i64 0, .int .i64 0, .int .i64 0, .nilS], .int .i64 5]) _ _ _
   exact PostF.rs (v0 := .tup [.agg [.int .i64 0, .int .i64 0, .int .i64 0, .nilS], .int .i64 5] ) (.inr rfl)
  | true =>
   have hE := fun F L nx => rEncode_ok (F := F) (L := L) (nx := nx) ⟨a, b, g, cs⟩ hok
   obtain ⟨o, ho⟩ : ∃ o, o = encS ⟨a, b, g, cs⟩ := ⟨_, rfl⟩
   rw [← ho] at hE ⊢
   rw [Bool.true_and]
   simp only [hwk, wkNL, n480_q, Nat.add_assoc, go_sem]
   repeat refine sd2 ?_
   refine CallVC.pure (args2 := [.agg (Pkx.row ⟨a, b, g, cs⟩)]) (by simp [Pkx.row, Wk, WkL, hi, List.take_of_length_le, q_0, q_480]) (hE _ _ _) rfl ?_
   cases hos : o == s with
   | false =>
    rw [if_neg (by simp)]
    simp only [hwk, hos, wkNL, n0_q, Nat.add_assoc, go_sem]
    repeat refine sd2 ?_
    show PostF _ _ _ _ (.tup [.agg [.int .i64 0, .int .i64 0, .int .i64 0, .nilS], .int .i64 5]) _ _ _
    exact PostF.rs (v0 := .tup [.agg [.int .i64 0, .int .i64 0, .int .i64 0, .nilS], .int .i64 5] ) (.inr rfl)
   | true =>
    rw [if_pos rfl]
    simp only [hwk, hos, wkNL, n0_q, n480_q, Nat.add_assoc, go_sem]
    repeat refine sd2 ?_
    exact PostF.of (p := True) (v0 := .tup [.agg [.int .i64 a, .int .i64 b, .int .i64 g, .sl ⟨L + 1, q⟩ 0 i], .int .i64 0]) (.inr rfl) (by simp only [resVal, resVals, resVal1, one, n0_q, go_sem]) trivial (by simp [decV, Pkx.row, Wk, WkL, Tx.look, hi, List.take_of_length_le, q_0, q_480]) (by simp [decV, Pkx.row, wkN, wkNL]) (by simp [decV, Pkx.row, Tx.nf, nfl]) trivial (by simp [UpdAll, keys])
structure GetPut (c : Ckx) (g p : FuncId) (x : PV) : Prop where
 g : ∀ (F : SF) (L nx : Nat), Con Tryz.prog g [.agg c.row] F L nx nx (.tup [x, .int .i64 0]) [] []
 p : ∀ (F : SF) (L nx : Nat), Con Tryz.prog p [x] F L nx nx (.tup [.agg c.row, .int .i64 0]) [] []
theorem gpD (d : Dat) (h : d.ok = true) : GetPut ⟨0, flD d.la d.fi d.lo 3, dataB d⟩ 43 21 (.agg d.row) := by
 refine ⟨fun F L nx => ?_, fun F L nx => ?_⟩
 ·have h2 := getDataT_ok (F := F) (L := L) (nx := nx) ⟨0, flD d.la d.fi d.lo 3, dataB d⟩ (by
   have := dat_ok_len h
   show (dataB d).length ≤ _
   rw [dataB_len]; omega)
  rw [dataBack h] at h2
  exact h2
 ·have h1 := putData_ok (F := F) (L := L) (nx := nx) d
  rw [h, if_pos rfl] at h1
  exact h1
theorem gpI (d : Ini) (h : d.ok = true) : GetPut ⟨iniK d.ck, 0, d.oct⟩ 44 30 (.agg d.row) := by
 refine ⟨fun F L nx => ?_, fun F L nx => ?_⟩
 ·have h2 := getInitT_ok (F := F) (L := L) (nx := nx) ⟨iniK d.ck, 0, d.oct⟩ (by
   have := ini_ok_len h
   show d.oct.length ≤ _
   rw [ini_oct_len]; omega)
  rw [iniBack h] at h2
  exact h2
 ·have h1 := putInit_ok (F := F) (L := L) (nx := nx) d
  rw [h, if_pos rfl] at h1
  exact h1
theorem gpS (c w : Int) (gs : List (Int × Int)) (ds : List Int) (h : sackV c w gs ds = true) : GetPut ⟨3, 0, sackO c w gs ds⟩ 45 26 (sackP c w gs ds) := by
 obtain ⟨_, _, _, h4, h5, _⟩ := sackB h
 refine ⟨fun F L nx => ?_, fun F L nx => ?_⟩
 ·have h2 := getSackT_ok (F := F) (L := L) (nx := nx) ⟨3, 0, sackO c w gs ds⟩ (by
   show (sackO c w gs ds).length ≤ _
   rw [sackO_len]; omega)
  rw [sackBack h] at h2
  exact h2
 ·have h1 := putSack_ok (F := F) (L := L) (nx := nx) c w gs ds (by omega) (by omega)
  rw [h, if_pos rfl] at h1
  exact h1
theorem gpF (c : Int) (sk : List (Int × Int)) (h : fwdV c sk = true) : GetPut ⟨192, 0, fwdT c.toNat (sk.map fun k => (k.1.toNat, k.2.toNat))⟩ 46 34 (fwdP c sk) := by
 obtain ⟨_, _, _, h4⟩ := fwdB h
 refine ⟨fun F L nx => ?_, fun F L nx => ?_⟩
 ·have h2 := getForwardT_ok (F := F) (L := L) (nx := nx) ⟨192, 0, fwdT c.toNat (sk.map fun k => (k.1.toNat, k.2.toNat))⟩ (by
   show (fwdT _ _).length ≤ _
   rw [fwdT_len, List.length_map]; omega)
  rw [fwdBack h] at h2
  exact h2
 ·have h1 := putForward_ok (F := F) (L := L) (nx := nx) c sk (by omega)
  rw [h, if_pos rfl] at h1
  exact h1
theorem gpR (k n la r : Int) (xs : List Int) (h : resetV k n la r xs = true) : GetPut ⟨130, 0, resetB k n la r xs⟩ 47 38 (rstP k n la r (.fs 1 (xs.map eI))) := by
 have hb := rst_len h
 obtain ⟨_, _, _, _, h4⟩ := rstB h
 have hx : xs.length ≤ 30 := by rcases h4 with ⟨_, _, h4⟩ | ⟨_, _, _, h4⟩ <;> simp_all
 refine ⟨fun F L nx => ?_, fun F L nx => ?_⟩
 ·have h2 := getResetT_ok (F := F) (L := L) (nx := nx) ⟨130, 0, resetB k n la r xs⟩ (by
   show (resetB k n la r xs).length ≤ _
   omega)
  rw [rstBack h] at h2
  exact h2
 ·have h1 := putReset_ok (F := F) (L := L) (nx := nx) k n la r xs (by omega)
  rw [h, if_pos rfl] at h1
  exact h1
inductive CkBack (c : Ckx) : Prop
 | dat (d : Dat) (hk : c.kd = 0) (h : GetPut c 43 21 (.agg d.row))
 | ini (d : Ini) (hk : c.kd = 1 ∨ c.kd = 2) (h : GetPut c 44 30 (.agg d.row))
 | sck (a w : Int) (gs : List (Int × Int)) (ds : List Int) (hk : c.kd = 3) (h : GetPut c 45 26 (sackP a w gs ds))
 | fwd (a : Int) (sk : List (Int × Int)) (hk : c.kd = 192) (h : GetPut c 46 34 (fwdP a sk))
 | rst (k n la r : Int) (xs : List Int) (hk : c.kd = 130) (h : GetPut c 47 38 (rstP k n la r (.fs 1 (xs.map eI))))
 | oth (h0 : c.kd ≠ 0) (h1 : c.kd ≠ 1) (h2 : c.kd ≠ 2) (h3 : c.kd ≠ 3) (h4 : c.kd ≠ 192) (h5 : c.kd ≠ 130)
theorem kds_oth {x : Nat} (h : x < 8) : 4 ≤ kds.getD x 0 ∧ kds.getD x 0 ≤ 14 := by
 rcases (show x = 0 ∨ x = 1 ∨ x = 2 ∨ x = 3 ∨ x = 4 ∨ x = 5 ∨ x = 6 ∨ x = 7 by omega) with rfl | rfl | rfl | rfl | rfl | rfl | rfl | rfl <;> decide
theorem Pcx.chk_back {p : Pcx} (hp : p.Ok) : CkBack p.chk := by
 obtain ⟨m, hm⟩ : ∃ m, m = p.w % 8 := ⟨_, rfl⟩
 have hm8 : m < 8 := by rw [hm]; exact Nat.mod_lt _ (by omega)
 have hx := kds_oth (x := p.w / 8 % 8) (Nat.mod_lt _ (by omega))
 unfold Pcx.chk
 rw [← hm]
 have ot : CkBack ⟨((kds.getD (p.w / 8 % 8) 0 : Nat) : Int), ((p.a % 2 : Nat) : Int), p.pl.take 60⟩ := by
  refine .oth ?_ ?_ ?_ ?_ ?_ ?_ <;> (show ((kds.getD (p.w / 8 % 8) 0 : Nat) : Int) ≠ _; omega)
 rcases (show m = 6 ∨ m = 7 ∨ m = 0 ∨ m = 1 ∨ m = 2 ∨ m = 3 ∨ m = 4 ∨ m = 5 by omega) with rfl | rfl | rfl | rfl | rfl | rfl | rfl | rfl
 ·exact ot
 ·exact ot
 ·exact .dat p.dat rfl (gpD p.dat hp.dat)
 ·exact .dat p.dat rfl (gpD p.dat hp.dat)
 ·exact .sck _ _ _ _ rfl (gpS _ _ _ _ hp.sck)
 ·exact .ini (p.ini p.m8) (by show iniK _ = 1 ∨ iniK _ = 2; unfold iniK; split <;> simp) (gpI _ (hp.ini p.m8))
 ·have := gpF _ _ hp.fwd
  rw [fwK, Int.toNat_natCast] at this
  exact .fwd _ _ rfl this
 ·exact .rst _ _ _ _ _ rfl (gpR _ _ _ _ _ hp.rst)
theorem Dfx.cs_back {d : Dfx} (hd : d.Ok) : ∀ i, i ≤ d.ps.length → (∀ c ∈ d.cs i, CkBack c) ∧ (d.cs i = [] ∨ (d.pk (d.cs i)).ok = true)
 | 0, _ => ⟨by simp [Dfx.cs], .inl rfl⟩
 | i + 1, hi => by
  have ih := Dfx.cs_back hd i (by omega)
  unfold Dfx.cs
  split
  ·rename_i hok
   refine ⟨fun c hc => ?_, .inr hok⟩
   rcases List.mem_append.1 hc with h | h
   ·exact ih.1 c h
   ·simp only [List.mem_cons, List.not_mem_nil, or_false] at h
    rw [h, Dfx.ch_at (by omega)]
    exact Pcx.chk_back (hd.p _ (List.getElem_mem _))
  ·exact ih
theorem serB16n {n : Nat} (h : n < 65536) : serB 16 (n : Int) = true := by unfold serB; simp; omega
theorem serB32n {n : Nat} (h : n < 4294967296) : serB 32 (n : Int) = true := by unfold serB; simp; omega
theorem Dfx.all_back {d : Dfx} (hd : d.Ok) : (∀ c ∈ d.all, CkBack c) ∧ (d.pk d.all).ok = true := by
 have h := Dfx.cs_back hd d.n (by unfold Dfx.n; omega)
 unfold Dfx.all
 split
 ·refine ⟨fun c hc => ?_, ?_⟩
  ·simp only [List.mem_cons, List.not_mem_nil, or_false] at hc
   subst hc
   exact .oth (by decide) (by decide) (by decide) (by decide) (by decide) (by decide)
  ·have h1 := serB16n hd.fr
   have h2 := serB16n hd.tt
   have h3 := serB32n hd.tg
   simp only [Pkx.ok, Pkx.hd, Dfx.pk, h1, h2, h3]
   rfl
 ·rename_i hne
  exact ⟨h.1, h.2.resolve_left hne⟩
end Go.Proofs.YtaacfnngodhecaaGreatDoor
end
