/- Lemmas for the walk: WK11, WK12, WK13, WK14, WK15, WK16, WK9, WK17. -/
import Derived.Test.YtaacfnngodhecaaGreatDoorP12
import Derived.Test.YtaacfnngodhecaaGreatDoorP10
set_option linter.all false
section
namespace Go.Proofs.YtaacfnngodhecaaGreatDoor
open Go.Tx
set_option maxRecDepth 100000
set_option maxHeartbeats 16000000
theorem xor32 {a b : Nat} (ha : a < 2 ^ 32) (hb : b < 2 ^ 32) : Sx.ibits .xor .u32 (a : Int) (b : Int) = ((a ^^^ b : Nat) : Int) := by
 show IntKind.u32.wrap ((BitVec.ofInt 32 (a : Int) ^^^ BitVec.ofInt 32 (b : Int)).toNat : Int) = _
 rw [BitVec.ofInt_natCast, BitVec.ofInt_natCast, BitVec.toNat_xor, BitVec.toNat_ofNat, BitVec.toNat_ofNat, Nat.mod_eq_of_lt (by omega), Nat.mod_eq_of_lt (by omega)]
 have := Nat.xor_lt_two_pow ha hb
 rw [IntKind.wrap_u32]; omega
theorem xor8 {a b : Nat} (ha : a < 2 ^ 8) (hb : b < 2 ^ 8) : Sx.ibits .xor .u8 (a : Int) (b : Int) = ((a ^^^ b : Nat) : Int) := by
 show IntKind.u8.wrap ((BitVec.ofInt 8 (a : Int) ^^^ BitVec.ofInt 8 (b : Int)).toNat : Int) = _
 rw [BitVec.ofInt_natCast, BitVec.ofInt_natCast, BitVec.toNat_xor, BitVec.toNat_ofNat, BitVec.toNat_ofNat, Nat.mod_eq_of_lt (by omega), Nat.mod_eq_of_lt (by omega)]
 have := Nat.xor_lt_two_pow ha hb
 rw [IntKind.wrap_u8]; omega
theorem and1_32 {a : Nat} (ha : a < 2 ^ 32) : Sx.ibits .and .u32 (a : Int) 1 = ((a % 2 : Nat) : Int) := by
 show IntKind.u32.wrap ((BitVec.ofInt 32 (a : Int) &&& BitVec.ofInt 32 ((1 : Nat) : Int)).toNat : Int) = _
 rw [BitVec.ofInt_natCast, BitVec.ofInt_natCast, BitVec.toNat_and, BitVec.toNat_ofNat, BitVec.toNat_ofNat, Nat.mod_eq_of_lt (by omega), Nat.mod_eq_of_lt (by omega), Nat.and_one_is_mod]
 rw [IntKind.wrap_u32]; omega
theorem not32 {a : Nat} (ha : a < 2 ^ 32) : Sx.ibits .xor .u32 (if IntKind.u32.signed = true then -1 else IntKind.u32.max) (a : Int) = ((4294967295 ^^^ a : Nat) : Int) := by
 have : (if IntKind.u32.signed = true then -1 else IntKind.u32.max) = ((4294967295 : Nat) : Int) := by decide
 rw [this, xor32 (by omega) ha]
theorem shr32 (a k : Nat) (hk : k ≤ 31) : ((a : Int)).fdiv (2 ^ min k 32) = ((a / 2 ^ k : Nat) : Int) := by
 rw [Nat.min_eq_left (by omega), Int.fdiv_eq_ediv_of_nonneg _ (Int.le_of_lt (Int.pow_pos (by decide)))]
 simp
def cstN : Nat := 2197175160
def stpN (x : Nat) : Nat := if x % 2 = 1 then (x / 2) ^^^ cstN else x / 2
def itN (x : Nat) : Nat → Nat
 | 0 => x
 | j + 1 => stpN (itN x j)
def tabN (i : Nat) : Nat := itN i 8
def crcS (x c : Nat) : Nat := (x / 256) ^^^ tabN ((x % 256) ^^^ c)
def crcF (x : Nat) (s : List UInt8) : Nat := s.foldl (fun x c => crcS x c.toNat) x
def crcN (s : List UInt8) : Nat := 4294967295 ^^^ crcF 4294967295 s
theorem cstN_lt : cstN < 2 ^ 32 := by decide
theorem stpN_lt {x : Nat} (h : x < 2 ^ 32) : stpN x < 2 ^ 32 := by
 unfold stpN
 split
 ·exact Nat.xor_lt_two_pow (by omega) cstN_lt
 ·omega
theorem itN_lt {x : Nat} (h : x < 2 ^ 32) : ∀ j, itN x j < 2 ^ 32
 | 0 => h
 | j + 1 => stpN_lt (itN_lt h j)
theorem crcS_lt {x c : Nat} (h : x < 2 ^ 32) (hc : c < 256) : crcS x c < 2 ^ 32 := by
 refine Nat.xor_lt_two_pow (by omega) (itN_lt ?_ 8)
 have : (x % 256) ^^^ c < 2 ^ 8 := Nat.xor_lt_two_pow (by omega) (by omega)
 omega
theorem crcF_lt : ∀ {s : List UInt8} {x : Nat}, x < 2 ^ 32 → crcF x s < 2 ^ 32
 | [], _, h => h
 | c :: s, _, h => crcF_lt (s := s) (crcS_lt h c.toNat_lt)
theorem crcF_succ (x : Nat) (s : List UInt8) {i : Nat} (h : i < s.length) : crcF x (s.take (i + 1)) = crcS (crcF x (s.take i)) (s.getD i 0).toNat := by
 rw [List.take_add_one, crcF, List.foldl_append, List.getD_eq_getElem?_getD, List.getElem?_eq_getElem h]
 rfl
theorem pConst_ok {F : SF} {L nx : Nat} : Con Tryz.prog 169 [.int .i64 2] F L nx nx (.int .u32 2197175160) [] [] := by
 refine bdy Tryz.f169 ?_
 intro F3 hF1 hF2
 simp only [Tryz.f169, cx, go_sem, meths]
 repeat refine sd1 ?_
 exact PostF.rs (v0 := .int .u32 2197175160) (.inr rfl)
theorem pRight1_ok {F : SF} {L nx : Nat} : Con Tryz.prog 162 [.int .i64 2, .fs 1 [eI 0]] F L nx nx (.bool true) [] [] := by
 refine bdy Tryz.f162 ?_
 intro F3 hF1 hF2
 simp only [Tryz.f162, cx, eI, go_sem, meths]
 refine loopK.intro _ _ (I := fun i : Nat => ⟨[some (.int .i64 2), none, none, none, none, none, none, some (.fs 1 [eI 0]), some (.int .i64 1), some (.int .i64 i)] ++ oz 16, [], 1000 * (i + 1)⟩) (pre := fun i => i ≤ 1) (μ := fun i => 1 - i) 0 (by omega) ?_ ?_
 ·exact Sub.of (hfz hF2) (by simp only [eI, go_sem, subT, and_self, Int.natCast_zero, Int.natCast_one]; try trivial) trivial trivial (by simp)
 ·intro i hi
  have hc : i = 0 ∨ i = 1 := by omega
  rcases hc with rfl | rfl
  ·have f1 : decide ((0 : Int) < 1) = true := rfl
   have f2 : decide ((0 : Int) < 0) = false := rfl
   have f3 : decide ((0 : Int) ≥ 4294967296) = false := rfl
   simp only [f1, f2, f3, eI, Int.natCast_zero, Nat.add_zero, go_sem]
   repeat refine sd1 ?_
   refine ⟨1, by omega, by omega, Sub.of (hfz hF2) (by simp only [go_sem, subT, Int.natCast_one]; try trivial) trivial trivial (by simp)⟩
  ·have f1 : decide ((1 : Int) < 1) = false := rfl
   have f2 : ((2 : Int) == 1) = false := rfl
   have f3 : ((2 : Int) == 2) = true := rfl
   simp only [f1, f2, f3, eI, Int.natCast_one, go_sem]
   exact .bool (.inr rfl) rfl rfl (by simp [UpdAll])
def z256 : List PV := List.replicate 256 (.int .u32 0)
def row241 : TI := ⟨.array 256 26, z256, 256, 1024, false, []⟩
def tysP : Tys := (241, row241) :: tys
theorem tok241 : TOk Tryz.prog 241 row241 (.agg (List.replicate 256 (Value.int IntKind.u32 0)).toArray) := ⟨⟨by kernel_rfl, by kernel_rfl, by kernel_rfl, by kernel_rfl, by kernel_rfl, (fun h => by cases h), by kernel_rfl⟩, by kernel_rfl, by simp [row241]⟩
theorem tysPOk : Tys.Ok Tryz.prog tysP := by
 intro t i h
 simp only [tysP, Tys.get] at h
 split at h
 ·rename_i he
  injection h with h; subst h
  have := eq_of_beq he; subst this
  exact ⟨_, tok241⟩
 ·exact tysOk t i h
theorem fieldsP : AllFields tysP := FieldsIn.ok (by kernel_rfl)
theorem gP (n : Nat) : Tys.get tysP n = if (241 == n) = true then some ⟨.array 256 26, z256, 256, 1024, false, []⟩ else Tys.get tys n := rfl
noncomputable def cxp (L : Nat) : Cx := ⟨Tryz.prog, tysP, meths, false, L, none, [], [], false, [], fun _ => False⟩
theorem cxpOk (L : Nat) : (cxp L).Ok := ⟨tysPOk, fieldsP, mixedOk, methsOk⟩
def u32R (f : Nat → Nat) : List PV := (List.range 256).map fun j => PV.int .u32 (f j)
theorem u32R_len (f : Nat → Nat) : (u32R f).length = 256 := by simp [u32R]
theorem z256_len : z256.length = 256 := by simp [z256]
theorem z256_eq : z256 = u32R fun _ => 0 := by kernel_rfl
theorem u32R_put (f : Nat → Nat) (i v : Nat) (hi : i < 256) : putAt (u32R f) i [.int .u32 (v : Int)] = u32R fun j => if j = i then v else f j := by
 simp only [putAt, u32R]
 apply List.ext_getElem?
 intro j
 simp only [List.length_cons, List.length_nil, List.getElem?_append, List.length_append, List.length_take, List.length_map, List.length_range, List.getElem?_map, List.getElem?_take, List.getElem?_drop]
 by_cases h1 : j < i
 ·have : j < 256 := by omega
  simp [h1, this, Nat.min_eq_left (Nat.le_of_lt hi), show j ≠ i by omega]; try omega
 ·by_cases h2 : j = i
  ·subst h2
   simp [Nat.min_eq_left (Nat.le_of_lt hi), hi]
  ·have h3 : ¬ j < min i 256 := by omega
   have h4 : ¬ j < min i 256 + 1 := by omega
   have h5 : i + 1 + (j - (min i 256 + (0 + 1))) = j := by omega
   rw [if_neg (by omega), h5]
   by_cases h6 : j < 256
   ·rw [List.getElem?_range h6]; simp [h2]
   ·rw [List.getElem?_eq_none (by simpa using h6)]; rfl
def tabR (i : Nat) : List PV := u32R fun j => if j < i then tabN j else 0
theorem tabR_0 : z256 = tabR 0 := by rw [z256_eq]; rfl
theorem tabR_succ (i : Nat) (hi : i < 256) : putAt (tabR i) i [.int .u32 (tabN i : Int)] = tabR (i + 1) := by
 rw [tabR, u32R_put _ _ _ hi, tabR]
 congr 1
 funext j
 split
 ·rename_i h; subst h; simp
 ·rename_i h
  have : (j < i + 1) = (j < i) := by apply propext; omega
  simp [this]
theorem tabR_len (i : Nat) : (tabR i).length = 256 := u32R_len _
theorem tabR_at {i c : Nat} (hi : i < 256) : (tabR 256).getD i (.tup []) = .int .u32 (tabN i) := by
 simp [tabR, u32R, List.getD_eq_getElem?_getD, hi]
theorem tabR_nf (i : Nat) : nfl (tabR i) = true := by
 unfold tabR u32R
 induction (List.range 256) with
 | nil => rfl
 | cons a l ih => simp only [List.map_cons, nfl, nf, ih, Bool.and_self]
theorem tabR_wk (F : SF) (i : Nat) : WkL F (tabR i) (tabR i) := by
 unfold tabR u32R
 induction (List.range 256) with
 | nil => simp [WkL]
 | cons a l ih => simp only [List.map_cons, WkL, Wk]; exact ⟨trivial, ih⟩
theorem tabR_wkN (i : Nat) : wkNL (tabR i) (tabR i) = [] := by
 unfold tabR u32R
 induction (List.range 256) with
 | nil => rfl
 | cons a l ih => simp only [List.map_cons, wkNL, wkN, ih]; rfl
theorem pTable_ok {F : SF} {L nx : Nat} : Con Tryz.prog 163 [.int .i64 2] F L nx nx (.agg (tabR 256)) [] [] := by
 have hcc := fun F L nx => pConst_ok (F := F) (L := L) (nx := nx)
 refine Con.body (cxpOk (L + 1)) rfl rfl (fn := Tryz.f163) (c := Tryz.f163.body.getD .skip) (by kernel_rfl) (by rfl) (by kernel_rfl) rfl (by simp) ?_
 intro F3 hF1 hF2
 simp only [Tryz.f163, cxp, gP, tabR_0, go_sem, meths]
 repeat refine sd2 ?_
 refine loopK.intro _ _ (I := fun i : Nat => ⟨[some (.int .i64 2), none, some (.ptr ⟨L + 1, 0⟩ 0 0), some (.ptr ⟨L + 1, 32⟩ 0 0), none, none, some (.int .i64 i)] ++ oz 22, [(⟨L + 1, 0⟩, .rows 241 256 true true [tabR 0]), (⟨L + 1, 32⟩, .rows 241 256 true true [tabR i])], 1000000 * (i + 1)⟩) (pre := fun i => i ≤ 256) (μ := fun i => 256 - i) 0 (by omega) ?_ ?_
 ·refine Sub.of (hfz hF2) (by simp only [go_sem, subT, and_self, Int.natCast_zero]; try trivial) ?_ (by simp [subK, keys]) (by simp)
  simp [subH, Tx.look]
 ·intro i hi
  have hl := tabR_len i
  by_cases hlt : i < 256
  ·have f1 : decide ((i : Int) < 256) = true := dT (by omega)
   have w1 : IntKind.u32.wrap (i : Int) = (i : Int) := by rw [IntKind.wrap_u32]; omega
   simp only [f1, w1, gP, Nat.add_assoc, go_sem]
   repeat refine sd2 ?_
   refine loopK.intro _ _ (I := fun j : Nat => ⟨[some (.int .i64 2), none, some (.ptr ⟨L + 1, 0⟩ 0 0), some (.ptr ⟨L + 1, 32⟩ 0 0), some (.int .i64 i), some (.int .u32 (itN i j)), some (.int .i64 i), none, none, none, none, some (.int .i64 j)] ++ oz 17, [(⟨L + 1, 0⟩, .rows 241 256 true true [tabR 0]), (⟨L + 1, 32⟩, .rows 241 256 true true [tabR i])], 1000000 * (i + 1) + 2000 * (j + 1)⟩) (pre := fun j => j ≤ 8) (μ := fun j => 8 - j) 0 (by omega) ?_ ?_
   ·refine Sub.of (hfz hF2) (by simp only [itN, go_sem, subT, and_self, Int.natCast_zero]; try trivial) ?_ (by simp [subK, keys]) (by simp)
    simp [subH, Tx.look]
   ·intro j hj
    have hx : itN i j < 2 ^ 32 := itN_lt (by omega) j
    by_cases hlt2 : j < 8
    ·have f2 : decide ((j : Int) < 8) = true := dT (by omega)
     have hs : itN i (j + 1) = stpN (itN i j) := rfl
     obtain ⟨x, hxx⟩ : ∃ x, x = itN i j := ⟨_, rfl⟩
     rw [← hxx] at hx hs ⊢
     have a1 := and1_32 hx
     have a2 := shr32 x 1 (by omega)
     by_cases hb : x % 2 = 1
     ·have f3 : (((x % 2 : Nat) : Int) == 1) = true := by rw [hb]; rfl
      have hv : itN i (j + 1) = x / 2 ^ 1 ^^^ 2197175160 := by rw [hs, stpN, if_pos hb]; rfl
      have a3 := xor32 (a := x / 2 ^ 1) (b := 2197175160) (by omega) (by omega)
      simp only [f2, f3, a1, a2, gP, Nat.add_assoc, go_sem]
      repeat refine sd2 ?_
      refine CallVC.same (hcc _ _ _) ?_
      have a3' : Sx.ibits BinOp.xor IntKind.u32 ((x / 2 ^ 1 : Nat) : Int) 2197175160 = ((x / 2 ^ 1 ^^^ 2197175160 : Nat) : Int) := a3
      have w2 : IntKind.u32.wrap ((x / 2 ^ 1 ^^^ 2197175160 : Nat) : Int) = ((x / 2 ^ 1 ^^^ 2197175160 : Nat) : Int) := by rw [← a3', a3']; have := itN_lt (x := i) (by omega) (j + 1); rw [hv] at this; rw [IntKind.wrap_u32]; omega
      simp only [a3', gP, Nat.add_assoc, go_sem]
      repeat refine sd2 ?_
      refine ⟨j + 1, by omega, by omega, Sub.of (hfz hF2) (by simp only [hv, go_sem, subT, and_self, Int.natCast_add, Int.natCast_one]; try trivial) ?_ (by simp [subK, keys]) (by simp; try omega)⟩
      simp [subH, Tx.look]
     ·have hb0 : x % 2 = 0 := by omega
      have f3 : (((x % 2 : Nat) : Int) == 1) = false := by rw [hb0]; rfl
      have hv : itN i (j + 1) = x / 2 ^ 1 := by rw [hs, stpN, if_neg (by omega)]
      simp only [f2, f3, a1, a2, gP, Nat.add_assoc, go_sem]
      repeat refine sd2 ?_
      refine ⟨j + 1, by omega, by omega, Sub.of (hfz hF2) (by simp only [hv, go_sem, subT, and_self, Int.natCast_add, Int.natCast_one]; try trivial) ?_ (by simp [subK, keys]) (by simp; try omega)⟩
      simp [subH, Tx.look]
    ·have hj8 : j = 8 := by omega
     subst hj8
     have f2 : decide (((8 : Nat) : Int) < 8) = false := rfl
     have f4 : decide ((8 : Int) < 8) = false := rfl
     have hp := tabR_succ i hlt
     rw [tabN] at hp
     simp only [putAt, List.length_cons, List.length_nil, Nat.zero_add, List.append_assoc, List.cons_append, List.nil_append] at hp
     simp only [f2, hl, Int.toNat_natCast, Nat.mul_one, Nat.zero_add, gP, Nat.add_assoc, go_sem]
     repeat refine sd2 ?_
     refine ⟨i + 1, by omega, by omega, Sub.of (hfz hF2) (by simp only [go_sem, subT, and_self, Int.natCast_add, Int.natCast_one]; try trivial) ?_ (by simp [subK, keys]) (by simp; try omega)⟩
     simp [subH, Tx.look, hp]
  ·have hi6 : i = 256 := by omega
   subst hi6
   have f1 : decide (((256 : Nat) : Int) < 256) = false := rfl
   have f4 : decide ((256 : Int) < 256) = false := rfl
   have hd : List.drop 256 (tabR 0) = [] := List.drop_eq_nil_of_le (by rw [tabR_len]; omega)
   simp only [f1, hl, hd, List.append_nil, tabR_nf, gP, go_sem]
   repeat refine sd2 ?_
   exact PostF.of (p := True) (v0 := .agg (tabR 256)) (.inr rfl) (by simp only [resVal, resVals, resVal1, one, gP, go_sem]) trivial (by simpa [Wk] using tabR_wk _ _) (by simp [wkN, tabR_wkN]) (by simp [Tx.nf, tabR_nf]) trivial (by simp [UpdAll, keys])
theorem crcN_lt (s : List UInt8) : crcN s < 2 ^ 32 := Nat.xor_lt_two_pow (by omega) (crcF_lt (by omega))
theorem pMore_ok {F : SF} {L nx : Nat} (s : List UInt8) (hs : s.length ≤ 4096) : Con Tryz.prog 140 [.int .i64 2, .int .i64 0, .str s] F L nx nx (.tup [.int .i64 (crcN s), .int .i64 0]) [] [] := by
 have hr := fun F L nx => pRight1_ok (F := F) (L := L) (nx := nx)
 have ht := fun F L nx => pTable_ok (F := F) (L := L) (nx := nx)
 simp only [eI] at hr
 refine Con.body (cxpOk (L + 1)) rfl rfl (fn := Tryz.f140) (c := Tryz.f140.body.getD .skip) (by kernel_rfl) (by rfl) (by kernel_rfl) rfl (by simp) ?_
 intro F3 hF1 hF2
 have f0 : (!true) = false := rfl
 have f1 : decide ((s.length : Int) > 4096) = false := dF (by omega)
 have f1' : decide ((4096 : Int) < s.length) = false := dF (by omega)
 simp only [Tryz.f140, cxp, gP, go_sem, meths]
 repeat refine sd2 ?_
 refine CallVC.gen (args2 := [.int .i64 2, .fs 1 [[.int .i64 0]]]) (by simp [WkL, Wk]) (hr _ _ _) ?_
 simp only [wkNL, wkN, unown, gP, f0, f1, go_sem]
 repeat refine sd2 ?_
 refine CallVC.same (ht _ _ _) ?_
 have hl := tabR_len 256
 have n1 : Sx.ibits .xor .u32 (if IntKind.u32.signed = true then -1 else IntKind.u32.max) 0 = 4294967295 := by decide
 have w0 : IntKind.u32.wrap 0 = 0 := by decide
 have w1 : IntKind.u32.wrap 4294967295 = 4294967295 := by decide
 simp only [gP, n1, w0, hl, tabR_nf, go_sem]
 repeat refine sd2 ?_
 have e0 : ((crcF 4294967295 (s.take 0) : Nat) : Int) = 4294967295 := rfl
 refine loopK.intro _ _ (I := fun i : Nat => ⟨[none, none, some (.str s), none, none, none, none, none, some (.ptr ⟨L + 1, 384⟩ 0 0), some (.int .u32 (crcF 4294967295 (s.take i))), none, none, none, none, none, none, none, none, none, none, none, none, none, none, none, none, none, some (.int .i64 s.length), some (.int .i64 i)] ++ oz 17, [(⟨L + 1, 384⟩, .rows 241 256 true true [tabR 256])], 1000000 * (i + 1)⟩) (pre := fun i => i ≤ s.length) (μ := fun i => s.length - i) 0 (by omega) ?_ ?_
 ·refine Sub.of (hfz hF2) (by simp only [go_sem, subT, and_self, Int.natCast_zero]; try trivial) ?_ (by simp [subK, keys]) (by simp)
  simp [subH, Tx.look, z256_len]
 ·intro i hi
  have hx : crcF 4294967295 (s.take i) < 2 ^ 32 := crcF_lt (by omega)
  by_cases hlt : i < s.length
  ·have k1 : decide ((i : Int) < (s.length : Int)) = true := dT (by omega)
   have hsu := crcF_succ 4294967295 s hlt
   have hc := (s.getD i 0).toNat_lt
   obtain ⟨x, hxx⟩ : ∃ x, x = crcF 4294967295 (s.take i) := ⟨_, rfl⟩
   rw [← hxx] at hx hsu ⊢
   have b1 := shr32 x 8 (by omega)
   have b2 : IntKind.u8.wrap (x : Int) = ((x % 256 : Nat) : Int) := by rw [IntKind.wrap_u8]; omega
   have b3 := xor8 (a := x % 256) (b := (s.getD i 0).toNat) (by omega) (by omega)
   obtain ⟨y, hy⟩ : ∃ y, y = (x % 256) ^^^ (s.getD i 0).toNat := ⟨_, rfl⟩
   have hy2 : y < 2 ^ 8 := by rw [hy]; exact Nat.xor_lt_two_pow (by omega) (by omega)
   rw [← hy] at b3
   have b4 := tabR_at (i := y) (c := 0) (by omega)
   have b5 := xor32 (a := x / 2 ^ 8) (b := tabN y) (by omega) (itN_lt (by omega) 8)
   have hv : crcF 4294967295 (s.take (i + 1)) = x / 2 ^ 8 ^^^ tabN y := by rw [hsu, crcS, hy]
   simp only [k1, b1, b2, b3, b4, b5, gP, Int.toNat_natCast, Nat.mul_one, Nat.add_assoc, go_sem]
   repeat refine sd2 ?_
   refine ⟨i + 1, by omega, by omega, Sub.of (hfz hF2) (by simp only [hv, go_sem, subT, and_self, Int.natCast_add, Int.natCast_one]; try trivial) ?_ (by simp [subK, keys]) (by simp; try omega)⟩
   simp [subH, Tx.look]
  ·have hi6 : i = s.length := by omega
   subst hi6
   have k1 : decide ((s.length : Int) < (s.length : Int)) = false := dF (by omega)
   have ht : s.take s.length = s := List.take_length
   rw [ht] at hx ⊢
   have b1 := not32 hx
   have b2 : IntKind.i64.wrap ((4294967295 ^^^ crcF 4294967295 s : Nat) : Int) = ((crcN s : Nat) : Int) := by
    rw [IntKind.wrap_i64, crcN]; have := Nat.xor_lt_two_pow (x := 4294967295) (n := 32) (by omega) hx; omega
   simp only [k1, b1, b2, gP, Nat.add_assoc, go_sem]
   rw [show crcN s = 4294967295 ^^^ crcF 4294967295 s from rfl]
   refine ⟨by have := crcN_lt s; simp only [crcN, Sx.inI64] at this ⊢; omega, ?_⟩
   repeat refine sd2 ?_
   exact PostF.rs (v0 := .tup [.int .i64 ((4294967295 ^^^ crcF 4294967295 s : Nat) : Int), .int .i64 0]) (.inr rfl)
theorem pCrc_ok {F : SF} {L nx : Nat} (s : List UInt8) (hs : s.length ≤ 4096) : Con Tryz.prog 110 [.int .i64 2, .str s] F L nx nx (.tup [.int .i64 (crcN s), .int .i64 0]) [] [] := by
 have hr := fun F L nx => pMore_ok (F := F) (L := L) (nx := nx) s hs
 refine bdy Tryz.f110 ?_
 intro F3 hF1 hF2
 simp only [Tryz.f110, cx, go_sem, meths]
 repeat refine sd2 ?_
 refine CallVC.same (hr _ _ _) ?_
 simp only [go_sem]
 repeat refine sd2 ?_
 exact PostF.rs (v0 := .tup [.int .i64 (crcN s), .int .i64 0]) (.inr rfl)
def byN (v : Nat) : UInt8 := UInt8.ofNat (v % 256)
def le4 (v : Nat) : List UInt8 := [byN v, byN (v / 256), byN (v / 65536), byN (v / 16777216)]
def sumT (s : List UInt8) : List UInt8 := s.take 8 ++ [0, 0, 0, 0] ++ s.drop 12
def sumS (s : List UInt8) : List UInt8 := s.take 8 ++ le4 (crcN (sumT s)) ++ s.drop 12
theorem cSum_ok {F : SF} {L nx : Nat} (s : List UInt8) (h1 : 12 ≤ s.length) (h2 : s.length ≤ 4000) : Con Tryz.prog 67 [.str s] F L nx nx (.str (sumS s)) [] [] := by
 have hl : (sumT s).length = s.length := by simp [sumT]; omega
 have hr := fun F L nx => pCrc_ok (F := F) (L := L) (nx := nx) (sumT s) (by omega)
 simp only [sumT] at hr
 have hc := crcN_lt (sumT s)
 obtain ⟨c, hcc⟩ : ∃ c, c = crcN (sumT s) := ⟨_, rfl⟩
 rw [show crcN (s.take 8 ++ [0, 0, 0, 0] ++ s.drop 12) = c from hcc.symm] at hr
 rw [← hcc] at hc
 refine bdy Tryz.f67 ?_
 intro F3 hF1 hF2
 have e1 : (s.drop 12).take (s.length - 12) = s.drop 12 := List.take_of_length_le (by simp)
 have e2 : (s.take 8).length = 8 := by simp; omega
 have e3 : (s.take 8 ++ [0, 0, 0, 0]).length = 12 := by simp; omega
 have e4 : (s.drop 12).length = s.length - 12 := by simp
 simp only [Tryz.f67, cx, e1, e2, e3, e4, go_sem, meths]
 refine ⟨by kernel_rfl, ?_⟩
 repeat refine sd2 ?_
 refine CallVC.same (hr _ _ _) ?_
 have w1 : IntKind.u8.wrap (c : Int) = ((c % 256 : Nat) : Int) := by rw [IntKind.wrap_u8]; omega
 have w2 : IntKind.u8.wrap ((c : Int).fdiv (2 ^ min 8 64)) = ((c / 256 % 256 : Nat) : Int) := by rw [IntKind.wrap_u8]; rw [Int.fdiv_eq_ediv_of_nonneg _ (by decide)]; show ((c : Int) / 256) % 256 = _; omega
 have w3 : IntKind.u8.wrap ((c : Int).fdiv (2 ^ min 16 64)) = ((c / 65536 % 256 : Nat) : Int) := by rw [IntKind.wrap_u8]; rw [Int.fdiv_eq_ediv_of_nonneg _ (by decide)]; show ((c : Int) / 65536) % 256 = _; omega
 have w4 : IntKind.u8.wrap ((c : Int).fdiv (2 ^ min 24 64)) = ((c / 16777216 % 256 : Nat) : Int) := by rw [IntKind.wrap_u8]; rw [Int.fdiv_eq_ediv_of_nonneg _ (by decide)]; show ((c : Int) / 16777216) % 256 = _; omega
 simp only [e1, e2, e4, w1, w2, w3, w4, go_sem]
 have e5 : bytesP [[.int .u8 ((c % 256 : Nat) : Int)], [.int .u8 ((c / 256 % 256 : Nat) : Int)], [.int .u8 ((c / 65536 % 256 : Nat) : Int)], [.int .u8 ((c / 16777216 % 256 : Nat) : Int)]] = le4 c := by
  simp only [bytesP, byteP, List.map_cons, List.map_nil, le4, byN, Int.toNat_natCast]
 have e6 : (le4 c).length = 4 := rfl
 have e7 : (s.take 8 ++ le4 c).length = 12 := by simp [e6]; omega
 refine ⟨okDyn_num (fun x => x.i) (by kernel_rfl), by kernel_rfl, ?_⟩
 repeat refine sd2 ?_
 simp only [e5, e6, e7]
 refine ⟨?_, by omega, ⟨by omega, by omega, by omega⟩, by omega, okDyn_num (fun x => x.i) (by kernel_rfl), ?_⟩
 ·intro row hrow
  simp only [List.mem_cons, List.not_mem_nil, or_false] at hrow
  rcases hrow with h | h | h | h <;> exact ⟨_, h⟩
 exact PostF.rs (v0 := .str (s.take 8 ++ le4 c ++ s.drop 12)) (.inr rfl) (hw := by simp [Wk, sumS, ← hcc])
theorem ones64_ok {F : SF} {L nx : Nat} : Con Tryz.prog 161 [.int .u64 4] F L nx nx (.int .i64 1) [] [] := by
 refine bdy Tryz.f161 ?_
 intro F3 hF1 hF2
 have a1 : Sx.ibits .and .u64 ((4 : Int).fdiv (2 ^ min 1 64)) 6148914691236517205 = 0 := by rfl
 have a2 : Sx.ibits .and .u64 4 6148914691236517205 = 4 := by rfl
 have a3 : IntKind.u64.wrap (0 + 4) = 4 := by rfl
 have a4 : Sx.ibits .and .u64 ((4 : Int).fdiv (2 ^ min 2 64)) 3689348814741910323 = 1 := by rfl
 have a5 : Sx.ibits .and .u64 4 3689348814741910323 = 0 := by rfl
 have a6 : IntKind.u64.wrap (1 + 0) = 1 := by rfl
 have a7 : (1 : Int).fdiv (2 ^ min 4 64) = 0 := by rfl
 have a8 : IntKind.u64.wrap (0 + 1) = 1 := by rfl
 have a9 : Sx.ibits .and .u64 1 1085102592571150095 = 1 := by rfl
 have b1 : (1 : Int).fdiv (2 ^ min 8 64) = 0 := by rfl
 have b2 : (1 : Int).fdiv (2 ^ min 16 64) = 0 := by rfl
 have b3 : (1 : Int).fdiv (2 ^ min 32 64) = 0 := by rfl
 have b4 : Sx.ibits .and .i64 1 127 = 1 := by rfl
 have b5 : IntKind.i64.wrap 1 = 1 := by rfl
 simp only [Tryz.f161, cx, a1, a2, a3, a4, a5, a6, a7, a8, a9, b1, b2, b3, b4, b5, go_sem, meths]
 repeat refine sd2 ?_
 exact PostF.rs (v0 := .int .i64 1) (.inr rfl)
theorem ones_ok {F : SF} {L nx : Nat} : Con Tryz.prog 139 [.int .u64 4] F L nx nx (.int .i64 1) [] [] := by
 refine bdy Tryz.f139 ?_
 intro F3 hF1 hF2
 simp only [Tryz.f139, cx, go_sem, meths]
 repeat refine sd2 ?_
 refine CallVC.same (ones64_ok (L := L + 1)) ?_
 simp only [go_sem]
 repeat refine sd2 ?_
 exact PostF.rs (v0 := .int .i64 1) (.inr rfl)
theorem unit_ok {F : SF} {L nx : Nat} : Con Tryz.prog 109 [.int .i64 4] F L nx nx (.bool true) [] [] := by
 refine bdy Tryz.f109 ?_
 intro F3 hF1 hF2
 have a1 : decide ((4 : Int) ≥ 1) = true := rfl
 have a1' : decide ((1 : Int) ≤ 4) = true := rfl
 have a2 : decide ((4 : Int) ≤ 8) = true := rfl
 have a3 : IntKind.u64.wrap 4 = 4 := rfl
 have a4 : ((1 : Int) == 1) = true := rfl
 simp only [Tryz.f109, cx, a1, a2, a3, go_sem, meths]
 repeat refine sd2 ?_
 refine CallVC.same (ones_ok (L := L + 1)) ?_
 simp only [a4, go_sem]
 repeat refine sd2 ?_
 exact PostF.rs (v0 := .bool true) (.inr rfl)
def zer (n : Nat) : List UInt8 := List.replicate n 0
def padS (s : List UInt8) : List UInt8 := s ++ zer ((4 - s.length % 4) % 4)
theorem padS_len (s : List UInt8) : (padS s).length = (s.length + 3) / 4 * 4 := by simp [padS, zer]; omega
theorem zer_succ (n : Nat) : (zer (n + 1)).map rowB = (zer n).map rowB ++ [[.int .u8 0]] := by
 rw [zer, List.replicate_succ']; simp [zer, rowB]
theorem isByte_all (t : List UInt8) : ∀ row ∈ t.map rowB, isByteP row := by
 intro row h
 obtain ⟨b, _, rfl⟩ := List.mem_map.1 h
 exact ⟨_, rfl⟩
theorem pad_ok {F : SF} {L nx : Nat} (s : List UInt8) (hs : s.length ≤ 1000000) : Con Tryz.prog 66 [.str s, .int .i64 4] F L nx nx (.tup [.str (padS s), .int .i64 0]) [] [] := by
 refine bdy Tryz.f66 ?_
 intro F3 hF1 hF2
 have f0 : (!true) = false := rfl
 obtain ⟨d, hd⟩ : ∃ d, d = (4 - s.length % 4) % 4 := ⟨_, rfl⟩
 simp only [Tryz.f66, cx, go_sem, meths]
 repeat refine sd2 ?_
 refine CallVC.same (unit_ok (L := L + 1)) ?_
 simp only [f0, go_sem]
 repeat refine sd2 ?_
 refine loopK.intro _ _ (I := fun x : Nat × Nat => ⟨[none, some (.int .i64 4), none, none, none, none, some (.sl ⟨L + 1, x.2⟩ 0 (s.length + x.1))] ++ oz 15, [(⟨L + 1, x.2⟩, .rows 5 1 true true (s.map rowB ++ (zer x.1).map rowB))], 10000 * (x.1 + 1)⟩)
  (pre := fun x => x.1 ≤ d ∧ x.2 < 10000 * (x.1 + 1)) (μ := fun x => d - x.1) (0, 160) ⟨by simp, by simp⟩ ?_ ?_
 ·refine Sub.of (hfz hF2) (by simp only [go_sem, subT, and_self]; try trivial) ?_ (by simp [subK, keys]) (by simp)
  simp [subH, Tx.look, zer]
 ·rintro ⟨i, q⟩ ⟨hi, hq⟩
  simp only at hi hq ⊢
  obtain ⟨q_n1, q_n2, q_n3, q_n4, q_n5⟩ := nqL L (i := i) (p := q) (by omega)
  have hln : (s.map rowB ++ (zer i).map rowB).length = s.length + i := by simp [zer]
  by_cases hlt : i < d
  ·have f1 : ((((s.length + i : Nat) : Int)).tmod 4 != 0) = true := by rw [bne_iff_ne, Int.tmod_eq_emod_of_nonneg (by omega)]; omega
   simp only [f1, hln, q_n1, q_n2, q_n5, kS3, Nat.add_assoc, go_sem]
   refine ⟨by omega, ⟨by omega, by omega⟩, (i + 1, 10000 * (i + 1) + 224), ⟨by simp only []; omega, by simp only []; omega⟩, by simp only []; omega, ?_⟩
   refine Sub.of (hfz hF2) (by simp only [go_sem, subT, and_self]; try trivial) ?_ (by simp [subK, keys]) (by simp only []; omega)
   simp only [subH, Tx.look, zer_succ, q_n1, kS3, List.append_assoc, go_sem]
  ·have f1 : ((((s.length + i : Nat) : Int)).tmod 4 != 0) = false := by rw [bne_eq_false_iff_eq, Int.tmod_eq_emod_of_nonneg (by omega)]; omega
   simp only [f1, hln, Nat.add_assoc, go_sem]
   have hid : i = d := by omega
   have e1 : List.take (s.length + i) (s.map rowB ++ (zer i).map rowB) = (padS s).map rowB := by
    rw [List.take_of_length_le (by omega), padS, ← hd, ← hid, List.map_append]
   simp only [e1, rowB_bytes]
   refine ⟨by omega, ⟨by omega, isByte_all _⟩, ?_⟩
   exact PostF.rs (v0 := .tup [.str (padS s), .int .i64 0]) (.inr rfl)
structure Ckx where
 kd : Int
 fl : Int
 bd : List UInt8
def Ckx.row (c : Ckx) : List PV := [.int .i64 c.kd, .int .i64 c.fl, .str c.bd]
structure Pkx where
 fr : Int
 tt : Int
 tg : Int
 cs : List Ckx
def Pkx.row (p : Pkx) : List PV := [.int .i64 p.fr, .int .i64 p.tt, .int .i64 p.tg, .fs 3 (p.cs.map Ckx.row)]
def Ckx.ok (c : Ckx) : Bool := (serB 8 c.kd && serB 8 c.fl) && decide (c.bd.length ≤ 1200)
def Ckx.sz (c : Ckx) : Nat := 4 + (c.bd.length + 3) / 4 * 4
def szs (cs : List Ckx) : Nat := (cs.map Ckx.sz).sum
def Pkx.hd (p : Pkx) : Bool := (serB 16 p.fr && serB 16 p.tt) && serB 32 p.tg && decide (1 ≤ p.cs.length) && decide (p.cs.length ≤ 40)
def Pkx.ok (p : Pkx) : Bool := p.hd && p.cs.all Ckx.ok && decide (12 + szs p.cs ≤ 1200)
theorem rowCk {cs : List Ckx} {i : Nat} (h : i < cs.length) : (cs.map Ckx.row).getD i [] = cs[i].row := by
 rw [List.getD_eq_getElem?_getD, List.getElem?_map, List.getElem?_eq_getElem h]; rfl
theorem szs_succ {cs : List Ckx} {i : Nat} (h : i < cs.length) : szs (cs.take (i + 1)) = szs (cs.take i) + cs[i].sz := by
 rw [List.take_add_one, List.getElem?_eq_getElem h, szs, List.map_append, List.sum_append]; rfl
theorem szs_le : ∀ {cs : List Ckx}, (∀ c ∈ cs, c.bd.length ≤ 1000000) → szs cs ≤ cs.length * 1000010
 | [], _ => by simp [szs]
 | c :: l, h => by
  have h1 := szs_le (cs := l) (fun d hd => h d (by simp [hd]))
  have h2 := h c (by simp)
  have e : szs (c :: l) = c.sz + szs l := by simp [szs]
  rw [e, List.length_cons, Nat.add_mul, Ckx.sz]; omega
theorem pkCheck_ok {F : SF} {L nx : Nat} (p : Pkx) (hlen : p.cs.length ≤ 1000000) (hb : ∀ c ∈ p.cs, c.bd.length ≤ 1000000) : Con Tryz.prog 15 [.agg p.row] F L nx nx (.int .i64 (if p.ok then 0 else 320)) [] [] := by
  refine bdy Tryz.f15 ?_
  intro F3 hF1 hF2
  obtain ⟨fr, tt, tg, cs⟩ := p
  simp only at hlen hb
  unfold Pkx.ok Pkx.hd
  simp only [Tryz.f15, cx, Pkx.row, Nat.add_zero, go_sem, meths]
  repeat refine sd2 ?_
  refine CallVC.pure (args2 := [_, .fs 1 ([fr, tt].map eI)]) ⟨rfl, by simp [Wk, eI], trivial⟩ (small_ok 16 [fr, tt] (by omega) (by omega) (by simp)) rfl ?_
  have e1 : [fr, tt].all (serB 16) = (serB 16 fr && serB 16 tt) := by simp
  have e2 : [tg].all (serB 32) = serB 32 tg := by simp
  cases h1 : (serB 16 fr && serB 16 tt) with
  | false =>
    have f0 : (!false) = true := rfl
    simp only [e1, h1, f0, Bool.false_and, Bool.false_eq_true, if_false, go_sem]
    repeat refine sd2 ?_
    exact PostF.rs (v0 := .int .i64 320) (.inr rfl)
  | true =>
    have f0 : (!true) = false := rfl
    simp only [e1, h1, f0, Bool.true_and, go_sem]
    repeat refine sd2 ?_
    refine CallVC.pure (args2 := [_, .fs 1 ([tg].map eI)]) ⟨rfl, by simp [Wk, eI], trivial⟩ (small_ok 32 [tg] (by omega) (by omega) (by simp)) rfl ?_
    cases h2 : serB 32 tg with
    | false =>
      have f0 : (!false) = true := rfl
      simp only [e2, h2, f0, Bool.false_and, Bool.false_eq_true, if_false, go_sem]
      repeat refine sd2 ?_
      exact PostF.rs (v0 := .int .i64 320) (.inr rfl)
    | true =>
      cases h3 : decide (1 ≤ cs.length) with
      | false =>
        have h3' : cs.length < 1 := by simpa using h3
        have k1 : decide ((cs.length : Int) < 1) = true := dT (by omega)
        simp only [e2, h2, k1, f0, Bool.true_and, Bool.false_and, Bool.false_eq_true, if_false, List.length_map, go_sem]
        repeat refine sd2 ?_
        exact PostF.rs (v0 := .int .i64 320) (.inr rfl)
      | true =>
        have h3' : 1 ≤ cs.length := by simpa using h3
        have k1 : decide ((cs.length : Int) < 1) = false := dF (by omega)
        cases h4 : decide (cs.length ≤ 40) with
        | false =>
          have h4' : 40 < cs.length := by simpa using h4
          have k2 : decide ((cs.length : Int) > 40) = true := dT (by omega)
          have k2' : decide ((40 : Int) < cs.length) = true := dT (by omega)
          simp only [e2, h2, k1, k2, f0, Bool.true_and, Bool.false_and, Bool.false_eq_true, if_false, List.length_map, go_sem]
          repeat refine sd2 ?_
          exact PostF.rs (v0 := .int .i64 320) (.inr rfl)
        | true =>
          have h4' : cs.length ≤ 40 := by simpa using h4
          have k2 : decide ((cs.length : Int) > 40) = false := dF (by omega)
          have k2' : decide ((40 : Int) < cs.length) = false := dF (by omega)
          simp only [e2, h2, k1, k2, f0, Bool.true_and, List.length_map, go_sem]
          repeat refine sd2 ?_
          refine loopK.intro _ _ (I := fun i : Nat => ⟨[none, none, some (.int .i64 0), some (.int .i64 ((12 + szs (cs.take i) : Nat) : Int)), none, none, none, none, none, none, none, none, none, none, none, none, none, none, none, none, none, none, none, none, none, none, none, none, none, none, none, none, none, some (.fs 3 (cs.map Ckx.row)), some (.int .i64 cs.length), some (.int .i64 i)] ++ oz 28, [], 10000 * (i + 1)⟩)
            (pre := fun i => i ≤ cs.length ∧ (cs.take i).all Ckx.ok = true) (μ := fun i => cs.length - i) 0 ⟨by omega, by simp⟩ ?_ ?_
          · refine Sub.of (hfz hF2) (by simp only [szs, List.take_zero, List.map_nil, List.sum_nil, Nat.add_zero, go_sem, subT, and_self, Int.natCast_zero]; try trivial) ?_ (by simp [subK, keys]) (by simp)
            simp [subH]
          · rintro i ⟨hi, hall⟩
            simp only at hi hall ⊢
            have hsz : szs (cs.take i) ≤ 40 * 1000010 := by
              have := szs_le (cs := cs.take i) (fun c h => hb c (List.mem_of_mem_take h))
              have h5 := Nat.mul_le_mul_right 1000010 (show (cs.take i).length ≤ 40 by rw [List.length_take]; omega)
              exact Nat.le_trans this h5
            by_cases hlt : i < cs.length
            · have k3 : decide ((i : Int) < (cs.length : Int)) = true := dT (by omega)
              have r0 := rowCk hlt
              have hmem := List.getElem_mem hlt
              have hs := szs_succ hlt
              have ha : (cs.take (i + 1)).all Ckx.ok = (cs[i]).ok := by
                rw [List.take_add_one, List.getElem?_eq_getElem hlt, List.all_append, hall]; simp
              obtain ⟨c, hc⟩ : ∃ c, c = cs[i] := ⟨_, rfl⟩
              rw [← hc] at r0 hmem hs ha
              have hbl := hb c hmem
              simp only [k3, r0, Ckx.row, List.length_map, kS3, Nat.add_assoc, Nat.add_zero, go_sem]
              repeat refine sd2 ?_
              refine CallVC.pure (args2 := [_, .fs 1 ([c.kd, c.fl].map eI)]) ⟨rfl, by simp [Wk, eI], trivial⟩ (small_ok 8 [c.kd, c.fl] (by omega) (by omega) (by simp)) rfl ?_
              have e3 : [c.kd, c.fl].all (serB 8) = (serB 8 c.kd && serB 8 c.fl) := by simp
              have hno : c.ok = false → cs.all Ckx.ok = false := fun h => List.all_eq_false.2 ⟨c, hmem, by simp [h]⟩
              cases h6 : (serB 8 c.kd && serB 8 c.fl) with
              | false =>
                have f1 : (!false) = true := rfl
                have hv := hno (by simp [Ckx.ok, h6])
                simp only [e3, h6, f1, hv, Bool.false_and, Bool.false_eq_true, if_false, Nat.add_assoc, go_sem]
                repeat refine sd2 ?_
                exact PostF.rs (v0 := .int .i64 320) (.inr rfl)
              | true =>
                by_cases h7 : 1200 < c.bd.length
                · have k4 : decide ((c.bd.length : Int) > 1200) = true := dT (by omega)
                  have k4' : decide ((1200 : Int) < c.bd.length) = true := dT (by omega)
                  have hv := hno (by simp [Ckx.ok]; intros; omega)
                  simp only [e3, h6, f0, k4, hv, Bool.false_and, Bool.false_eq_true, if_false, kS3, Nat.add_assoc, go_sem]
                  repeat refine sd2 ?_
                  exact PostF.rs (v0 := .int .i64 320) (.inr rfl)
                · have k4 : decide ((c.bd.length : Int) > 1200) = false := dF (by omega)
                  have k4' : decide ((1200 : Int) < c.bd.length) = false := dF (by omega)
                  have hcok : c.ok = true := by simp only [Ckx.ok, h6, Bool.true_and, decide_eq_true_eq]; omega
                  have q1 : ((c.bd.length : Int) + 3).tdiv 4 = (((c.bd.length + 3) / 4 : Nat) : Int) := by rw [Int.tdiv_eq_ediv_of_nonneg (by omega)]; omega
                  simp only [e3, h6, f0, k4, q1, kS3, Nat.add_assoc, go_sem]
                  repeat refine sd2 ?_
                  refine ⟨i + 1, ⟨by omega, by rw [ha]; exact hcok⟩, by omega, ?_⟩
                  have e5 : ((12 + szs (cs.take (i + 1)) : Nat) : Int) = ((12 + szs (cs.take i) : Nat) : Int) + (4 + (((c.bd.length + 3) / 4 : Nat) : Int) * 4) := by rw [hs, Ckx.sz]; omega
                  refine Sub.of (hfz hF2) (by simp only [e5, go_sem, subT, and_self, Int.natCast_succ]; try trivial) ?_ (by simp [subK, keys]) (by simp only []; omega)
                  simp [subH]
            · have hin : i = cs.length := by omega
              subst hin
              have k3 : decide ((cs.length : Int) < (cs.length : Int)) = false := dF (by omega)
              rw [List.take_length] at hall hsz ⊢
              cases h5 : decide (12 + szs cs ≤ 1200) with
              | false =>
                have k4 : decide (((12 + szs cs : Nat) : Int) > 1200) = true := dT (by have : ¬ (12 + szs cs ≤ 1200) := by simpa using h5
                                                                                       omega)
                simp only [k3, k4, hall, Bool.true_and, Bool.false_eq_true, if_false, Nat.add_assoc, go_sem]
                repeat refine sd2 ?_
                exact PostF.rs (v0 := .int .i64 320) (.inr rfl)
              | true =>
                have k4 : decide (((12 + szs cs : Nat) : Int) > 1200) = false := dF (by have : 12 + szs cs ≤ 1200 := by simpa using h5
                                                                                        omega)
                simp only [k3, k4, hall, Bool.true_and, if_true, Nat.add_assoc, go_sem]
                repeat refine sd2 ?_
                exact PostF.rs (v0 := .int .i64 0) (.inr rfl)
theorem kWriteE_ok {F : SF} {L nx : Nat} (n : Nm) (e : TypeId) (he : e = 130 ∨ e = 128) (hn : n.l < L ∨ (n.l = L ∧ n.i < nx)) (m : Nm) (hm : m.l < L ∨ (m.l = L ∧ m.i < nx)) (t s : List UInt8) (hsl : t.length + s.length ≤ 1000000) (hb : bldF F n e (some m) t) :
  Con Tryz.prog 65 [.ptr n 0 0, .str s] F L nx (nx + 1) (.tup [.int .i64 s.length, .nilI]) ((m, .dead) :: bldU n e ⟨L, nx⟩ (t ++ s)) [n, m] := by
 refine bdyN Tryz.f65 (hrd := (by simp; omega)) ?_
 intro F3 hF1 hF2
 obtain ⟨ht, hb1, hb2, hmn⟩ := hb
 have hFn := (hF1 n (by simp)).trans hb1
 have hFm := (hF1 m (by simp)).trans hb2
 have n1 : ∀ k, (n = (⟨L + 1, k⟩ : Nm)) = False := nm_out (by omega)
 have n2 : ∀ k, ((⟨L + 1, k⟩ : Nm) = n) = False := nm_out' (by omega)
 have n3 : ∀ k, (m = (⟨L + 1, k⟩ : Nm)) = False := nm_out (by omega)
 have n4 : ∀ k, ((⟨L + 1, k⟩ : Nm) = m) = False := nm_out' (by omega)
 have n5 : (m = n) = False := by simp [hmn]
 have n6 : (n = m) = False := by simp [Ne.symm hmn]
 simp only [Tryz.f65, cx, go_sem, meths]
 refine CallVC.same (copyCheck1_ok n e he _ (by omega) (by simp [hFn]; rfl)) ?_
 simp only [hFn, hFm, n1, n4, n6, go_sem]
 have e1 : List.map (fun b : UInt8 => [PV.int .u8 b.toNat]) s = s.map rowB := rfl
 rw [e1]
 simp only [List.length_map]
 refine ⟨⟨trivial, by omega, by omega⟩, ?_⟩
 refine .now (PostN.val [288] (.inr rfl) (by simp) (p := True) (v0 := .tup [.int .i64 s.length, .nilI]) ?_ trivial ?_ ?_ ⟨by omega, ?_, by omega, ?_, Nat.le_refl _, ?_, trivial⟩ ?_)
 ·simp only [resVal, resVals, resVal1, one, go_sem]
 ·simp [nmA, nmAL]
 ·simp [Tx.rn, Tx.rnL]
 ·exact BN_dead
 ·rw [kp_out (hn.imp id fun h => .inl h.2)]
  exact .ren (by simp [Tx.look, n1, n6]; rfl) (by simp [rowsNm, nmA, nmAL, Dn]; omega) (by simp [Tx.rn, Tx.rnL, sg_out (show n.l ≤ L by omega)]; simp [sg])
 ·rw [kp_at0 (by simp)]
  exact .pure (by simp [Tx.look, n4])
 ·simp [UpdAll, keys, bldU]
structure Ini where
 tag : Int
 win : Int
 out : Int
 inn : Int
 tsn : Int
 ck : List UInt8
 deriving DecidableEq
def Ini.row (d : Ini) : List PV := [.int .i64 d.tag, .int .i64 d.win, .int .i64 d.out, .int .i64 d.inn, .int .i64 d.tsn, .str d.ck]
def Ini.ok (d : Ini) : Bool := (serB 32 d.tag && (serB 32 d.win && serB 32 d.tsn)) && ((serB 16 d.out && serB 16 d.inn) && (decide (0 < d.tag) && (decide (0 < d.out) && (decide (0 < d.inn) && decide ((d.ck.length : Int) ≤ 200)))))
theorem firstValid_ok {F : SF} {L nx : Nat} (d : Ini) : Con Tryz.prog 199 [.agg d.row] F L nx nx (.bool d.ok) [] [] := by
 refine bdy Tryz.f199 ?_
 intro F3 hF1 hF2
 obtain ⟨tag, win, out, inn, tsn, ck⟩ := d
 unfold Ini.ok
 simp only [Tryz.f199, cx, Ini.row, Nat.add_zero, go_sem, meths]
 refine CallVC.pure (args2 := [_, .fs 1 ([tag, win, tsn].map eI)]) ⟨rfl, by simp [Wk, eI], trivial⟩ (small_ok 32 [tag, win, tsn] (by omega) (by omega) (by simp)) rfl ?_
 cases h1 : (serB 32 tag && (serB 32 win && serB 32 tsn)) with
 | false =>
  simp only [h1, go_sem]
  exact .bool (.inr rfl) rfl rfl (by simp [UpdAll])
 | true =>
  simp only [h1, Nat.add_zero, go_sem]
  refine CallVC.pure (args2 := [_, .fs 1 ([out, inn].map eI)]) ⟨rfl, by simp [Wk, eI], trivial⟩ (small_ok 16 [out, inn] (by omega) (by omega) (by simp)) rfl ?_
  cases h2 : (serB 16 out && serB 16 inn) with
  | false =>
   simp only [h2, go_sem]
   exact .bool (.inr rfl) rfl rfl (by simp [UpdAll])
  | true =>
   cases h3 : decide (0 < tag) with
   | false =>
    simp only [h2, h3, Nat.add_zero, go_sem]
    exact .bool (.inr rfl) rfl rfl (by simp [UpdAll])
   | true =>
    cases h4 : decide (0 < out) with
    | false =>
     simp only [h2, h3, h4, Nat.add_zero, go_sem]
     exact .bool (.inr rfl) rfl rfl (by simp [UpdAll])
    | true =>
     cases h5 : decide (0 < inn) with
     | false =>
      simp only [h2, h3, h4, h5, Nat.add_zero, go_sem]
      exact .bool (.inr rfl) rfl rfl (by simp [UpdAll])
     | true =>
      simp only [h2, h3, h4, h5, Nat.add_zero, go_sem]
      exact .bool (.inr rfl) rfl (by simp) (by simp [UpdAll])
def iniB (tag win out inn tsn : Nat) (ck : List UInt8) : List UInt8 := putB 4 tag ++ putB 4 win ++ (putB 2 out ++ putB 2 inn) ++ putB 4 tsn ++ ck
def iniK (ck : List UInt8) : Int := if ck = [] then 1 else 2
theorem firstWrite_ok {F : SF} {L nx : Nat} (n : Nm) (hn : n.l < L ∨ (n.l = L ∧ n.i < nx)) (tag win out inn tsn : Nat) (ck : List UInt8) (h1 : tag < 256 ^ 4) (h2 : win < 256 ^ 4) (h3 : out < 256 ^ 2) (h4 : inn < 256 ^ 2) (h5 : tsn < 256 ^ 4) (hpl : ck.length ≤ 1100) (hb : bldF F n 130 none []) :
  Con Tryz.prog 200 [.agg (Ini.mk tag win out inn tsn ck).row, .ptr n 0 0] F L nx (nx + 1) (.tup [.int .i64 (iniK ck), .int .i64 0]) (bldU n 130 ⟨L, nx⟩ (iniB tag win out inn tsn ck)) [n] := by
 refine bdyN Tryz.f200 (hrd := (by simp; omega)) ?_
 intro F3 hF1 hF2
 have hFb : bldF F3 n 130 none [] := ⟨rfl, hb.2.imp fun p h => (hF1 n (by simp)).trans h⟩
 have n1 : ∀ k, (n = (⟨L + 1, k⟩ : Nm)) = False := nm_out (by omega)
 have n2 : ∀ k, ((⟨L + 1, k⟩ : Nm) = n) = False := nm_out' (by omega)
 unfold iniB
 simp only [Tryz.f200, cx, Ini.row, Nat.add_zero, go_sem, meths]
 obtain ⟨t1, e1⟩ : ∃ t, t = putB 4 tag ++ putB 4 win := ⟨_, rfl⟩
 obtain ⟨t2, e2⟩ : ∃ t, t = t1 ++ (putB 2 out ++ putB 2 inn) := ⟨_, rfl⟩
 obtain ⟨t3, e3⟩ : ∃ t, t = t2 ++ putB 4 tsn := ⟨_, rfl⟩
 have l1 : t1.length = 8 := by rw [e1, List.length_append, putB_len, putB_len]
 have l2 : t2.length = 12 := by rw [e2, List.length_append, List.length_append, putB_len, putB_len, l1]
 have l3 : t3.length = 16 := by rw [e3, List.length_append, putB_len, l2]
 have z1 : t1 ≠ [] := by intro h; rw [h] at l1; simp at l1
 have z2 : t2 ≠ [] := by intro h; rw [h] at l2; simp at l2
 have z3 : t3 ≠ [] := by intro h; rw [h] at l3; simp at l3
 rw [← e1, ← e2, ← e3]
 refine bput_call n (.inl (show n.l < L + 1 by omega)) none trivial [] 4 4 rfl (by omega) (by omega) [tag, win] (by simp; exact ⟨h1, h2⟩) (by simp) (by simp) ⟨L + 1, 320⟩ 2 rfl (by simp [eN]) (by intro h; rw [n1] at h; exact h) (by simp) ⟨rfl, hFb.2.imp fun p h => by simp [h, n1]⟩ t1 (by simp [e1]) ?_
 simp only [bldD, bldU, n1, n2, Nat.add_zero, go_sem]
 refine bput_call n (.inl (show n.l < L + 1 by omega)) (some ⟨L + 1, 352⟩) (.inr ⟨rfl, by simp⟩) t1 2 2 rfl (by omega) (by omega) [out, inn] (by simp; exact ⟨h3, h4⟩) (by simp) (by simp; omega) ⟨L + 1, 577⟩ 2 rfl (by simp [eN, n2]) (by intro h; rw [n1] at h; exact h) (by simp) ⟨z1, by simp [n1], by simp [n2], by simp [n2]⟩ t2 (by simp [e2]) ?_
 simp only [bldD, bldU, n1, n2, Nat.add_zero, go_sem]
 refine bput_call n (.inl (show n.l < L + 1 by omega)) (some ⟨L + 1, 609⟩) (.inr ⟨rfl, by simp⟩) t2 4 4 rfl (by omega) (by omega) [tsn] (by simpa using h5) (by simp) (by simp; omega) ⟨L + 1, 738⟩ 1 rfl (by simp [eN, n2]) (by intro h; rw [n1] at h; exact h) (by simp) ⟨z2, by simp [n1], by simp [n2], by simp [n2]⟩ t3 (by simp [e3]) ?_
 simp only [bldD, bldU, n1, n2, Nat.add_zero, go_sem]
 refine ⟨by kernel_rfl, CallVC.same (kWriteE_ok n 130 (.inl rfl) (.inl (show n.l < L + 1 by omega)) ⟨L + 1, 770⟩ (.inr ⟨rfl, by simp⟩) t3 ck (by omega) ⟨z3, by simp [n1], by simp [n2], by simp [n2]⟩) ?_⟩
 simp only [bldU, n1, n2, Nat.add_zero, go_sem]
 refine ⟨okDyn_num (fun x => if x = n then 1 else x.i) (by simp only [numF, List.map, n2, if_true, if_false]; kernel_rfl), ?_⟩
 by_cases hck : ck = []
 ·have f1 : (ck == []) = true := by simp [hck]
  have k1 : iniK ck = 1 := by simp [iniK, hck]
  rw [k1]
  simp only [f1, go_sem]
  refine .now (PostN.val [963] (.inr rfl) (by simp) (p := True) (v0 := .tup [.int .i64 1, .int .i64 0]) ?_ trivial ?_ ?_ ⟨by omega, ?_, Nat.le_refl _, ?_, trivial⟩ ?_)
  ·simp only [resVal, resVals, resVal1, one, go_sem]
  ·simp [nmA, nmAL]
  ·simp [Tx.rn, Tx.rnL]
  ·rw [kp_out (hn.imp id fun h => .inl h.2)]
   exact .ren (by simp [Tx.look, n1]; rfl) (by simp [rowsNm, nmA, nmAL, Dn]; omega) (by simp [Tx.rn, Tx.rnL, sg_out (show n.l ≤ L by omega)]; simp [sg])
  ·rw [kp_at0 (by simp)]
   exact .pure (by simp [Tx.look, n2])
  ·simp [UpdAll, keys]
 ·have f1 : (ck == []) = false := by simp [hck]
  have k1 : iniK ck = 2 := by simp [iniK, hck]
  rw [k1]
  simp only [f1, go_sem]
  refine .now (PostN.val [963] (.inr rfl) (by simp) (p := True) (v0 := .tup [.int .i64 2, .int .i64 0]) ?_ trivial ?_ ?_ ⟨by omega, ?_, Nat.le_refl _, ?_, trivial⟩ ?_)
  ·simp only [resVal, resVals, resVal1, one, go_sem]
  ·simp [nmA, nmAL]
  ·simp [Tx.rn, Tx.rnL]
  ·rw [kp_out (hn.imp id fun h => .inl h.2)]
   exact .ren (by simp [Tx.look, n1]; rfl) (by simp [rowsNm, nmA, nmAL, Dn]; omega) (by simp [Tx.rn, Tx.rnL, sg_out (show n.l ≤ L by omega)]; simp [sg])
  ·rw [kp_at0 (by simp)]
   exact .pure (by simp [Tx.look, n2])
  ·simp [UpdAll, keys]
theorem methsFv : Meths.get meths 155 "tannoy/chunk.valid" = some 199 := by simp [Meths.get, meths]
theorem methsFw : Meths.get meths 155 "tannoy/chunk.write" = some 200 := by simp [Meths.get, meths]
def Ini.oct (d : Ini) : List UInt8 := iniB d.tag.toNat d.win.toNat d.out.toNat d.inn.toNat d.tsn.toNat d.ck
theorem putInit_ok {F : SF} {L nx : Nat} (d : Ini) : Con Tryz.prog 30 [.agg d.row] F L nx nx
   (if d.ok then .tup [.agg [.int .i64 (iniK d.ck), .int .i64 0, .str d.oct], .int .i64 0] else .tup [.agg [.int .i64 0, .int .i64 0, .str []], .int .i64 320]) [] [] := by
 have hva : ∀ (F : SF) (L nx : Nat), Con Tryz.prog 199 [.agg d.row] F L nx nx (.bool d.ok) [] [] := fun F L nx => firstValid_ok d
 cases hV : d.ok with
 | false =>
  rw [hV] at hva
  simp only [if_false, Bool.false_eq_true]
  refine bdy Tryz.f30 ?_
  intro F3 hF1 hF2
  simp only [Tryz.f30, cx, Ini.row, go_sem, meths]
  refine CallVC.same (putBad_ok 155 _ 199 methsFv hva) ?_
  simp only [go_sem]
  exact PostF.same (p := True) (.inr rfl) (by simp only [resVal, resVals, resVal1, one, go_sem]) trivial (by simp [Tx.nf, nfl]) (by simp [UpdAll])
 | true =>
  rw [hV] at hva
  simp only [if_true]
  have hB := hV
  unfold Ini.ok at hB
  simp only [Bool.and_eq_true, decide_eq_true_eq] at hB
  obtain ⟨⟨b1, b2, b3⟩, ⟨b4, b5⟩, b6, b7, b8, b9⟩ := hB
  obtain ⟨e1, c1⟩ := serB_nat b1
  obtain ⟨e2, c2⟩ := serB_nat b2
  obtain ⟨e3, c3⟩ := serB_nat b3
  obtain ⟨e4, c4⟩ := serB_nat b4
  obtain ⟨e5, c5⟩ := serB_nat b5
  have hw : ∀ (F : SF) (L nx : Nat) (n : Nm), (n.l < L ∨ (n.l = L ∧ n.i < nx)) → bldF F n 130 none [] → Con Tryz.prog 200 [.agg d.row, .ptr n 0 0] F L nx (nx + 1) (.tup [.int .i64 (iniK d.ck), .int .i64 0]) (bldU n 130 ⟨L, nx⟩ d.oct) [n] := by
   intro F L nx n hn hb
   have := firstWrite_ok (F := F) (L := L) (nx := nx) n hn d.tag.toNat d.win.toNat d.out.toNat d.inn.toNat d.tsn.toNat d.ck c1 c2 c4 c5 c3 (by omega) hb
   rw [← e1, ← e2, ← e3, ← e4, ← e5] at this
   exact this
  refine bdy Tryz.f30 ?_
  intro F3 hF1 hF2
  simp only [Tryz.f30, cx, Ini.row, go_sem, meths]
  refine CallVC.same (putGood_ok 155 _ 199 200 methsFv methsFw hva (iniK d.ck) 0 d.oct ?_ ?_ hw) ?_
  ·intro h
   have := congrArg List.length h
   unfold Ini.oct iniB at this
   simp [putB_len] at this
  ·unfold Ini.oct iniB
   simp only [List.length_append, putB_len]; omega
  simp only [go_sem]
  exact PostF.same (p := True) (.inr rfl) (by simp only [resVal, resVals, resVal1, one, go_sem]) trivial (by simp [Tx.nf, nfl]) (by simp [UpdAll])
def ckB (c : Ckx) : List UInt8 := putB 1 c.kd.toNat ++ putB 1 c.fl.toNat ++ putB 2 (4 + c.bd.length) ++ padS c.bd
def pkB (p : Pkx) : List UInt8 := (putB 2 p.fr.toNat ++ putB 2 p.tt.toNat) ++ (putB 4 p.tg.toNat ++ putB 4 0) ++ p.cs.flatMap ckB
def encS (p : Pkx) : List UInt8 := sumS (pkB p)
theorem ckB_len (c : Ckx) : (ckB c).length = c.sz := by
 simp only [ckB, List.length_append, putB_len, padS_len, Ckx.sz]
theorem ckBs_len (cs : List Ckx) : (cs.flatMap ckB).length = szs cs := by
 simp only [List.length_flatMap, ckB_len, szs]
theorem pkB_len (p : Pkx) : (pkB p).length = 12 + szs p.cs := by
 simp only [pkB, List.length_append, putB_len, ckBs_len]
theorem serB_ex {b x : Int} (h : serB b x = true) : ∃ a : Nat, x = a ∧ a < 2 ^ b.toNat := ⟨_, (serB_nat h).1, (serB_nat h).2⟩
theorem encode_ok {F : SF} {L nx : Nat} (p : Pkx) (hp : p.ok = true) : Con Tryz.prog 14 [.agg p.row] F L nx nx (.tup [.str (encS p), .int .i64 0]) [] [] := by
 have hp0 := hp
 unfold Pkx.ok Pkx.hd at hp
 simp only [Bool.and_eq_true, decide_eq_true_eq] at hp
 obtain ⟨⟨⟨⟨⟨⟨p1, p2⟩, p3⟩, p4⟩, p5⟩, p6⟩, p7⟩ := hp
 have hall := List.all_eq_true.1 p6
 have hb : ∀ c ∈ p.cs, c.bd.length ≤ 1000000 := fun c h => by
  have := hall c h
  simp only [Ckx.ok, Bool.and_eq_true, decide_eq_true_eq] at this; omega
 have hc := fun F L nx => pkCheck_ok (F := F) (L := L) (nx := nx) p (by omega) hb
 simp only [hp0, if_true] at hc
 have hS := fun F L nx => cSum_ok (F := F) (L := L) (nx := nx) (pkB p) (by rw [pkB_len]; omega) (by rw [pkB_len]; omega)
 have hN : (pkB p).length ≤ 1200 := by rw [pkB_len]; omega
 obtain ⟨fr, tt, tg, cs⟩ := p
 simp only at p1 p2 p3 p4 p5 p6 p7 hall hb hN
 obtain ⟨fr, rfl, a2⟩ := serB_ex p1
 obtain ⟨tt, rfl, b2⟩ := serB_ex p2
 obtain ⟨tg, rfl, c2⟩ := serB_ex p3
 obtain ⟨t1, e1⟩ : ∃ t, t = putB 2 fr ++ putB 2 tt := ⟨_, rfl⟩
 obtain ⟨t2, e2⟩ : ∃ t, t = t1 ++ (putB 4 tg ++ putB 4 0) := ⟨_, rfl⟩
 have l1 : t1.length = 4 := by rw [e1, List.length_append, putB_len, putB_len]
 have l2 : t2.length = 12 := by rw [e2, List.length_append, List.length_append, putB_len, putB_len, l1]
 have z1 : t1 ≠ [] := by intro h; rw [h] at l1; simp at l1
 have z2 : t2 ≠ [] := by intro h; rw [h] at l2; simp at l2
 have hpk : pkB ⟨(fr : Int), (tt : Int), (tg : Int), cs⟩ = t2 ++ cs.flatMap ckB := by rw [e2, e1]; rfl
 unfold encS
 rw [hpk] at hS hN ⊢
 refine bdy Tryz.f14 ?_
 intro F3 hF1 hF2
 have f0 : ((0 : Int) != 0) = false := rfl
 simp only [Pkx.row] at hc ⊢
 simp only [Tryz.f14, cx, go_sem, meths]
 repeat refine sd2 ?_
 refine CallVC.same (hc _ _ _) ?_
 simp only [f0, Nat.add_zero, go_sem]
 repeat refine sd2 ?_
 refine bput_call ⟨L + 1, 224⟩ (.inr ⟨rfl, by simp⟩) none trivial [] 2 2 rfl (by omega) (by omega) [fr, tt] (by simp; exact ⟨a2, b2⟩) (by simp) (by simp) ⟨L + 1, 384⟩ 2 rfl (by simp [eN]) (by simp) (by simp) ⟨rfl, true, by simp⟩ t1 (by simp [e1]) ?_
 simp only [bldD, bldU, go_sem]
 repeat refine sd2 ?_
 refine bput_call ⟨L + 1, 224⟩ (.inr ⟨rfl, by simp⟩) (some ⟨L + 1, 416⟩) (.inr ⟨rfl, by simp⟩) t1 4 4 rfl (by omega) (by omega) [tg, 0] (by simp; exact c2) (by simp) (by simp; omega) ⟨L + 1, 481⟩ 2 rfl (by simp [eN]) (by simp) (by simp) ⟨z1, by simp, by simp, by simp⟩ t2 (by simp [e2]) ?_
 simp only [bldD, bldU, List.length_map, Nat.add_zero, go_sem]
 repeat refine sd2 ?_
 refine loopK.intro _ _ (I := fun z : Nat × Nat => ⟨[none, none, none, none, none, some (.ptr ⟨L + 1, 224⟩ 0 0), some (.fn (.func 65) [.ptr ⟨L + 1, 224⟩ 0 0] []), none, none, none, none, none, none, none, none, none, none, none, none, none, none, none, none, none, none, none, none, none, none, some (.fs 3 (cs.map Ckx.row)), some (.int .i64 cs.length), some (.int .i64 z.1)] ++ oz 28,
  bldU ⟨L + 1, 224⟩ 130 ⟨L + 1, z.2⟩ (t2 ++ (cs.take z.1).flatMap ckB), 10000 * (z.1 + 1)⟩) (pre := fun z => z.1 ≤ cs.length ∧ z.2 < 10000 * (z.1 + 1) ∧ 224 < z.2) (μ := fun z => cs.length - z.1) (0, 513) ⟨by simp, by simp, by simp⟩ ?_ ?_
 ·refine Sub.of (hfz hF2) (by simp only [go_sem, subT, and_self, Int.natCast_zero]; try trivial) ?_ (by simp [subK, keys, bldU]) (by simp)
  simp [subH, Tx.look, bldU]
 ·rintro ⟨i, q⟩ ⟨hi, hq, hq0⟩
  simp only at hi hq hq0 ⊢
  obtain ⟨t, ht⟩ : ∃ t, t = t2 ++ (cs.take i).flatMap ckB := ⟨_, rfl⟩
  rw [← ht]
  have htl : t.length ≤ 1200 := by
   have e := List.take_append_drop i cs
   have : szs (cs.take i) + szs (cs.drop i) = szs cs := by rw [← ckBs_len, ← ckBs_len, ← ckBs_len, ← List.length_append, ← List.flatMap_append, e]
   rw [ht, List.length_append, l2, ckBs_len]; omega
  have htz : t ≠ [] := by intro h; rw [h] at ht; have := congrArg List.length ht; simp [l2] at this; omega
  have q_224 : (q = 224) = False := by apply eq_false; omega
  have n224_q : (224 = q) = False := by apply eq_false; omega
  obtain ⟨q_n1, q_n2, q_n3, q_n4, q_n5⟩ := nqL L (i := i) (p := q) (by omega)
  by_cases hlt : i < cs.length
  ·have f1 : decide ((i : Int) < (cs.length : Int)) = true := dT (by omega)
   have r0 := rowCk hlt
   have hmem := List.getElem_mem hlt
   have hnx : (cs.take (i + 1)).flatMap ckB = (cs.take i).flatMap ckB ++ ckB cs[i] := by
    rw [List.take_succ_eq_append_getElem hlt, List.flatMap_append]; simp
   obtain ⟨c, hc0⟩ : ∃ c, c = cs[i] := ⟨_, rfl⟩
   rw [← hc0] at r0 hmem hnx
   have hcok := hall c hmem
   simp only [Ckx.ok, Bool.and_eq_true, decide_eq_true_eq] at hcok
   obtain ⟨⟨k1, k2⟩, k3⟩ := hcok
   obtain ⟨kd, hkd, k4⟩ := serB_ex k1
   obtain ⟨fl, hfl, k5⟩ := serB_ex k2
   simp only [f1, r0, Ckx.row, hkd, hfl, bldU, q_n1, kS2, kS3, Nat.add_assoc, List.length_map, Nat.add_zero, go_sem]
   repeat refine sd2 ?_
   obtain ⟨u1, g1⟩ : ∃ u, u = t ++ (putB 1 kd ++ putB 1 fl) := ⟨_, rfl⟩
   obtain ⟨u2, g2⟩ : ∃ u, u = u1 ++ putB 2 (4 + c.bd.length) := ⟨_, rfl⟩
   have g3 : u2 ++ padS c.bd = t2 ++ (cs.take (i + 1)).flatMap ckB := by
    rw [g2, g1, ht, hnx, ckB, hkd, hfl]; simp only [Int.toNat_natCast, List.append_assoc]
   have m1 : u1.length = t.length + 2 := by rw [g1, List.length_append, List.length_append, putB_len, putB_len]
   have m2 : u2.length = t.length + 4 := by rw [g2, List.length_append, putB_len, m1]
   have x1 : u1 ≠ [] := by intro h; rw [h] at m1; simp at m1
   have x2 : u2 ≠ [] := by intro h; rw [h] at m2; simp at m2
   have hpl := padS_len c.bd
   refine bput_call ⟨L + 1, 224⟩ (.inr ⟨rfl, by simp only []; omega⟩) (some ⟨L + 1, q⟩) (.inr ⟨rfl, by simp only []; omega⟩) t 1 1 rfl (by omega) (by omega) [kd, fl] (by simp; exact ⟨k4, k5⟩) (by simp) (by simp; omega) ⟨L + 1, 10000 * (i + 1) + 288⟩ 2 rfl (by simp [eN, q_n1, kS2]) (by simp <;> omega) (by simp [q_n2]) ⟨htz, by simp, by simp [q_224], by simp [q_224]⟩ u1 (by simp [g1]) ?_
   simp only [bldD, bldU, q_224, n224_q, q_n1, q_n2, kS2, kS2', kS3, Nat.add_assoc, go_sem]
   repeat refine sd2 ?_
   refine bput_call ⟨L + 1, 224⟩ (.inr ⟨rfl, by simp only []; omega⟩) (some ⟨L + 1, 10000 * (i + 1) + 320⟩) (.inr ⟨rfl, by simp only []; omega⟩) u1 2 2 rfl (by omega) (by omega) [4 + c.bd.length] (by simp; omega) (by simp) (by simp; omega) ⟨L + 1, 10000 * (i + 1) + 449⟩ 1 rfl (by simp [eN, q_n1, kS2]) (by simp <;> omega) (by simp) ⟨x1, by simp, by simp [q_n1, kS2], by simp [kS2]⟩ u2 (by simp [g2]) ?_
   simp only [bldD, bldU, n224_q, q_n1, kS2, kS2', kS3, Nat.add_assoc, go_sem]
   repeat refine sd2 ?_
   refine CallVC.same (pad_ok c.bd (by omega)) ?_
   simp only [Nat.add_assoc, go_sem]
   repeat refine sd2 ?_
   refine CallVC.same (kWriteE_ok ⟨L + 1, 224⟩ 130 (.inl rfl) (.inr ⟨rfl, by simp only []; omega⟩) ⟨L + 1, 10000 * (i + 1) + 481⟩ (.inr ⟨rfl, by simp only []; omega⟩) u2 (padS c.bd) (by omega) ⟨x2, by simp, by simp [q_n1, kS2], by simp [kS2]⟩) ?_
   rw [g3]
   simp only [bldU, n224_q, q_n1, kS2, kS2', kS3, Nat.add_assoc, go_sem]
   repeat refine sd2 ?_
   refine ⟨(i + 1, 10000 * (i + 1) + 770), ⟨by simp only []; omega, by simp only []; omega, by simp only []; omega⟩, by simp only []; omega, ?_⟩
   refine Sub.of (hfz hF2) (by simp only [go_sem, subT, and_self, Int.natCast_succ]; try trivial) ?_ (by simp [subK, keys]) (by simp only []; omega)
   simp only [subH, Tx.look, n224_q, q_n1, kS2, kS2', kS3, go_sem]
  ·have f1 : decide ((i : Int) < (cs.length : Int)) = false := dF (by omega)
   have hic : i = cs.length := by omega
   subst hic
   rw [List.take_length] at ht
   simp only [f1, bldU, Nat.add_assoc, Nat.add_zero, go_sem]
   repeat refine sd2 ?_
   refine CallVC.same (bString_ok ⟨L + 1, 224⟩ 130 (.inr ⟨rfl, by simp only []; omega⟩) ⟨L + 1, q⟩ (by simp) t (by omega) ⟨htz, by simp, by simp [q_224], by simp [q_224]⟩) ?_
   simp only [q_224, go_sem]
   repeat refine sd2 ?_
   rw [← ht] at hS ⊢
   refine CallVC.same (hS _ _ _) ?_
   simp only [Nat.add_assoc, go_sem]
   repeat refine sd2 ?_
   exact PostF.rs (v0 := .tup [.str (sumS t), .int .i64 0]) (.inr rfl)
end Go.Proofs.YtaacfnngodhecaaGreatDoor
end
