/- Lemmas for the walk: WK27, WK46, WD20, WD21, WK47, WK49, WK36, WK37, WK51, WK52, WK53, WK58, WK38, WD22, WK54, WK55, WK56, WK50, WK57, WD23, WK59, WD24, WK60. -/
import Derived.Test.YtaacfnngodhecaaGreatDoorP17
import Derived.Test.YtaacfnngodhecaaGreatDoorP16
import Derived.Test.YtaacfnngodhecaaGreatDoorP12
import Derived.Test.YtaacfnngodhecaaGreatDoorP15
set_option linter.all false
section
namespace Go.Proofs.YtaacfnngodhecaaGreatDoor
open Go.Tx
set_option maxRecDepth 100000
set_option maxHeartbeats 16000000
structure Rsx where
 kind : Int
 num : Int
 last : Int
 res : Int
 xs : List Int
def Rsx.v (d : Rsx) : PV := rstP d.kind d.num d.last d.res (.fs 1 (d.xs.map eI))
def Rsx.ok (d : Rsx) : Bool := resetV d.kind d.num d.last d.res d.xs
def Rsx.oct (d : Rsx) : List UInt8 := resetB d.kind d.num d.last d.res d.xs
def rsxG (s : List UInt8) : Rsx := if getB (s.take 1) = 1 then ⟨1, getB ((s.drop 1).take 4), getB ((s.drop 5).take 4), 0, (numsG s 9 2 (resetN s)).map fun x : Nat => (x : Int)⟩ else ⟨2, getB ((s.drop 1).take 4), 0, getB ((s.drop 5).take 1), []⟩
theorem rsxG_row (s : List UInt8) : PV.agg (resetK s) = (rsxG s).v := by
 unfold resetK rsxG
 split
 ·simp only [askK, Rsx.v, rstP, List.map_map]
  congr 2
 ·rfl
theorem rsxG_len (s : List UInt8) : (rsxG s).xs.length ≤ s.length := by
 unfold rsxG
 split
 ·simp only [List.length_map, numsG_len, resetN]; omega
 ·simp
def rsxOk (c : Ckx) : Bool := decide (resetMin c.bd ≤ c.bd.length) && (decide (resetP c.bd = c.bd.length) && ((rsxG c.bd).ok && (decide ((0 : Int) = c.fl) && decide ((rsxG c.bd).oct = c.bd))))
def zRsx (e : Int) : PV := .tup [.agg [.int .i64 0, .int .i64 0, .int .i64 0, .int .i64 0, .nilS], .int .i64 e]
def getRsxV (c : Ckx) : PV := if c.kd = 130 then (if rsxOk c then .tup [(rsxG c.bd).v, .int .i64 0] else zRsx 5) else zRsx 2
theorem getResetT_ok {F : SF} {L nx : Nat} (c : Ckx) (hl : c.bd.length ≤ 1000000) : Con Tryz.prog 47 [.agg c.row] F L nx nx (getRsxV c) [] [] := by
 have hcall : ∀ (F : SF) (L nx : Nat) (na : Nm) (ea : TypeId) (oa pa : Bool), na.l ≤ L → F na = some (.rows ea 1 oa pa [[.fn (.func 95) [] []]]) → Con Tryz.prog 96 [.agg c.row, .fn (.func 97) [] [.ptr na 0 0], .fn (.func 38) [] [], .fs 1 ([130].map eI)] F L nx nx (getRsxV c) [] [na] := by
  intro F L nx na ea oa pa hn hF
  obtain ⟨k, fl, s⟩ := c
  simp only [Ckx.row] at hl ⊢
  unfold getRsxV
  by_cases hk : k = 130
  ·have hk1 : (([130] : List Int).any fun x => k == x) = true := by simpa using hk
   rw [if_pos hk]
   obtain ⟨d, hdd⟩ : ∃ d, d = rsxG s := ⟨_, rfl⟩
   simp only
   rw [← hdd]
   have hrow : PV.agg (resetK s) = d.v := by rw [hdd]; exact rsxG_row s
   have hxl := rsxG_len s
   rw [← hdd] at hxl
   have hrl : (resetK s).length = 5 := by unfold resetK; split <;> rfl
   have hrn : nfl (resetK s) = true := by unfold resetK; split <;> rfl
   have hP : PutOk 38 (resetK s) (if d.ok then 130 else 0) 0 (if d.ok then d.oct else []) (if d.ok then 0 else 320) := by
    intro F L nx
    have h := putReset_ok (F := F) (L := L) (nx := nx) d.kind d.num d.last d.res d.xs (by omega)
    rw [hrow]
    have e : resetV d.kind d.num d.last d.res d.xs = d.ok := rfl
    rw [e] at h
    cases hb : d.ok with
    | true => rw [hb] at h; simp only [if_true] at h ⊢; exact h
    | false => rw [hb] at h; simp only [if_false, Bool.false_eq_true] at h ⊢; exact h
   by_cases h12 : resetMin s ≤ s.length
   ·have hO := reset2_ok (F := F) na ea oa pa hF s h12 hl
    by_cases hne : resetP s = s.length
    ·rw [hne] at hO
     cases hd : rsxOk ⟨k, fl, s⟩ with
     | true =>
      rw [if_pos rfl]
      unfold rsxOk at hd
      simp only [← hdd] at hd
      simp only [Bool.and_eq_true, decide_eq_true_eq] at hd
      obtain ⟨_, _, q1, q3, q4⟩ := hd
      rw [q1] at hP
      simp only [if_true, q4] at hP
      subst q3
      subst hk
      rw [← hrow]
      exact getReset_ok s hl 130 0 97 38 [] [.ptr na 0 0] [130] hk1 (by simp) _ hrl hrn [na] (by simpa using hn) hO hP
     | false =>
      rw [if_neg (by simp)]
      refine getReset_bad s hl k fl 97 38 [] [.ptr na 0 0] [130] hk1 (by simp) [na] (by simpa using hn) (.inr (.inr ⟨_, _, _, _, _, hrl, hrn, hO, hP, ?_⟩))
      rintro ⟨r1, r2, r3, r4⟩
      cases hb : d.ok with
      | false => rw [hb] at r1; simp at r1
      | true =>
       rw [hb] at r2 r4
       simp only [if_true] at r2 r4
       unfold rsxOk at hd
       simp only [← hdd] at hd
       simp only [hb, r3, r4, hne, h12, decide_true, Bool.and_true] at hd
       cases hd
    ·have hd : rsxOk ⟨k, fl, s⟩ = false := by
      unfold rsxOk
      simp only [decide_eq_false hne, Bool.false_and, Bool.and_false]
     rw [hd, if_neg (by simp)]
     exact getReset_bad s hl k fl 97 38 [] [.ptr na 0 0] [130] hk1 (by simp) [na] (by simpa using hn) (.inr (.inl ⟨_, _, hrl, hrn, hne, hO⟩))
   ·have hd : rsxOk ⟨k, fl, s⟩ = false := by
     unfold rsxOk
     simp only [decide_eq_false h12, Bool.false_and]
    rw [hd, if_neg (by simp)]
    exact getReset_bad s hl k fl 97 38 [] [.ptr na 0 0] [130] hk1 (by simp) [na] (by simpa using hn) (.inl (reset2_die na ea oa pa hF s (by omega) hl))
  ·rw [if_neg hk]
   exact con_rds (getReset_kind s k fl 97 38 [] [.ptr na 0 0] [130] (by simpa using hk) (by simp)) (by simp)
 have hv : ∃ x1 x2 x3 x4 x5 e, getRsxV c = .tup [.agg [.int .i64 x1, .int .i64 x2, .int .i64 x3, .int .i64 x4, x5], .int .i64 e] ∧ Tx.nf x5 = true := by
  unfold getRsxV
  split
  ·split
   ·exact ⟨_, _, _, _, _, _, rfl, rfl⟩
   ·exact ⟨_, _, _, _, _, _, rfl, rfl⟩
  ·exact ⟨_, _, _, _, _, _, rfl, rfl⟩
 obtain ⟨x1, x2, x3, x4, x5, e, hv, y5⟩ := hv
 rw [hv] at hcall ⊢
 simp only [Ckx.row] at hcall ⊢
 refine bdy Tryz.f47 ?_
 intro F3 hF1 hF2
 simp only [Tryz.f47, cx, go_sem, meths]
 repeat refine sd2 ?_
 refine CallVC.gen (args2 := [.agg [.int .i64 c.kd, .int .i64 c.fl, .str c.bd], .fn (.func 97) [] [.ptr ⟨L + 1, 96⟩ 0 0], .fn (.func 38) [] [], .fs 1 ([130].map eI)]) (by simp [WkL, Wk, eI]) (hcall _ _ _ ⟨L + 1, 96⟩ 175 true true (by simp) (by simp [wkNL, wkN, unown, SF.upd, SF.set])) ?_
 simp only [wkNL, wkN, unown, go_sem]
 repeat refine sd2 ?_
 exact PostF.same (p := True) (.inr rfl) (by simp only [resVal, resVals, resVal1, one, go_sem]) trivial (by simp [Tx.nf, nfl, y5]) (by simp [UpdAll])
def pW : Pkx := ⟨1, 2, 3, [⟨11, 0, []⟩]⟩
theorem pW_ok : pW.ok = true := by kernel_rfl
def sW : List UInt8 := encS pW
theorem sW_len : sW.length = 16 := by kernel_rfl
theorem sW_dec : decG sW = some pW := by kernel_rfl
theorem sW_bad : decG (sW.take 15 ++ [5]) = none := by kernel_rfl
def d1W : Dat := ⟨1, 2, 3, 51, true, true, false, [104, 105]⟩
def b1W : List UInt8 := dataB d1W
theorem h1W : hexS b1W = [48, 48, 48, 48, 48, 48, 48, 49, 48, 48, 48, 50, 48, 48, 48, 51, 48, 48, 48, 48, 48, 48, 51, 51, 54, 56, 54, 57] := by kernel_rfl
def b2W : List UInt8 := sackO 9 1000 [(2, 3)] [7]
theorem h2W : hexS b2W = [48, 48, 48, 48, 48, 48, 48, 57, 48, 48, 48, 48, 48, 51, 101, 56, 48, 48, 48, 49, 48, 48, 48, 49, 48, 48, 48, 50, 48, 48, 48, 51, 48, 48, 48, 48, 48, 48, 48, 55] := by kernel_rfl
def b3W : List UInt8 := fwdT 5 [(1, 7)]
theorem h3W : hexS b3W = [48, 48, 48, 48, 48, 48, 48, 53, 48, 48, 48, 49, 48, 48, 48, 55] := by kernel_rfl
def b4W : List UInt8 := resetB 2 6 0 1 []
theorem h4W : hexS b4W = [48, 50, 48, 48, 48, 48, 48, 48, 48, 54, 48, 49] := by kernel_rfl
theorem bW_len : b1W.length ≤ 100000 ∧ b2W.length ≤ 100000 ∧ b3W.length ≤ 100000 ∧ b4W.length ≤ 100000 := of_decide_eq_true (by kernel_rfl)
def fldP : PV := .tup [.agg [.int .i64 0, .int .i64 0, .str []], .int .i64 320]
def putP (k fl : Int) (b : List UInt8) : PV := .tup [.agg [.int .i64 k, .int .i64 fl, .str b], .int .i64 0]
section
variable {F : SF} {L nx : Nat}
theorem w1_ok : Con Tryz.prog 21 [.agg d1W.row] F L nx nx (putP 0 3 b1W) [] [] := by
 have h := putData_ok (F := F) (L := L) (nx := nx) d1W
 rw [show d1W.ok = true by kernel_rfl, if_pos rfl] at h
 exact h
theorem w2_ok : Con Tryz.prog 26 [sackP 9 1000 [(2, 3)] [7]] F L nx nx (putP 3 0 b2W) [] [] := by
 have h := putSack_ok (F := F) (L := L) (nx := nx) 9 1000 [(2, 3)] [7] (by simp) (by simp)
 rw [show sackV 9 1000 [(2, 3)] [7] = true by kernel_rfl, if_pos rfl] at h
 exact h
theorem w3_ok : Con Tryz.prog 26 [sackP 0 0 [(2, 3), (4, 5)] []] F L nx nx fldP [] [] := by
 have h := putSack_ok (F := F) (L := L) (nx := nx) 0 0 [(2, 3), (4, 5)] [] (by simp) (by simp)
 rw [show sackV 0 0 [(2, 3), (4, 5)] [] = false by kernel_rfl, if_neg (by simp)] at h
 exact h
theorem w4_ok : Con Tryz.prog 26 [sackP 0 0 [(1, 1)] []] F L nx nx fldP [] [] := by
 have h := putSack_ok (F := F) (L := L) (nx := nx) 0 0 [(1, 1)] [] (by simp) (by simp)
 rw [show sackV 0 0 [(1, 1)] [] = false by kernel_rfl, if_neg (by simp)] at h
 exact h
theorem w5_ok : Con Tryz.prog 30 [.agg (Ini.mk 0 0 1 1 0 []).row] F L nx nx fldP [] [] := by
 have h := putInit_ok (F := F) (L := L) (nx := nx) ⟨0, 0, 1, 1, 0, []⟩
 rw [show (Ini.mk 0 0 1 1 0 []).ok = false by kernel_rfl, if_neg (by simp)] at h
 exact h
theorem w6_ok : Con Tryz.prog 34 [fwdP 5 [(1, 7)]] F L nx nx (putP 192 0 b3W) [] [] := by
 have h := putForward_ok (F := F) (L := L) (nx := nx) 5 [(1, 7)] (by simp)
 rw [show fwdV 5 [(1, 7)] = true by kernel_rfl, if_pos rfl] at h
 exact h
theorem w7_ok : Con Tryz.prog 38 [rstP 2 6 0 1 (.fs 1 (([] : List Int).map eI))] F L nx nx (putP 130 0 b4W) [] [] := by
 have h := putReset_ok (F := F) (L := L) (nx := nx) 2 6 0 1 [] (by simp)
 rw [show resetV 2 6 0 1 [] = true by kernel_rfl, if_pos rfl] at h
 exact h
theorem w8_ok : Con Tryz.prog 43 [.agg (Ckx.mk 3 0 []).row] F L nx nx (.tup [.agg zDat.row, .int .i64 2]) [] [] := by
 have h := getDataT_ok (F := F) (L := L) (nx := nx) ⟨3, 0, []⟩ (by simp)
 rw [show getDatV ⟨3, 0, []⟩ = .tup [.agg zDat.row, .int .i64 2] from if_neg (by simp)] at h
 exact h
theorem w9_ok : Con Tryz.prog 45 [.agg (Ckx.mk 3 0 []).row] F L nx nx (zSck 5) [] [] := by
 have h := getSackT_ok (F := F) (L := L) (nx := nx) ⟨3, 0, []⟩ (by simp)
 rw [show getSckV ⟨3, 0, []⟩ = zSck 5 by unfold getSckV; rw [if_pos rfl, if_neg (by rw [show sckOk ⟨3, 0, []⟩ = false by kernel_rfl]; simp)]] at h
 exact h
theorem w10_ok : Con Tryz.prog 14 [.agg pW.row] F L nx nx (.tup [.str sW, .int .i64 0]) [] [] := encode_ok pW pW_ok
theorem w11_ok : Con Tryz.prog 17 [.str sW] F L nx nx (.tup [.agg pW.row, .int .i64 0]) [] [] := decode_ok sW pW (by rw [sW_len]; omega) (by rw [sW_len]; omega) sW_dec
end
theorem works32_ok {F : SF} {L nx : Nat} : Con Tryz.prog 10 [] F L nx nx (.bool true) [] [] := by
 have hl := sW_len
 have hl15 : (sW.take 15).length = 15 := by rw [List.length_take, hl]; rfl
 refine bdy Tryz.f10 ?_
 intro F3 hF1 hF2
 simp only [Tryz.f10, cx, go_sem, meths]
 have hn : (((16 : Nat) : Int) != 16) = false := rfl
 have hn2 : ((2 : Int) == 2) = true := rfl
 have hn5 : ((5 : Int) == 5) = true := rfl
 refine CallVC.gen (args2 := [.agg pW.row]) (by simp [WkL, Wk, Pkx.row, Ckx.row, pW]) w10_ok ?_
 simp only [hn, wkNL, wkN, unown, Pkx.row, Ckx.row, pW, List.map_cons, hl, go_sem]
 refine CallVC.same w11_ok ?_
 simp only [Pkx.row, Ckx.row, pW, List.map_cons, go_sem]
 refine CallVC.same w8_ok ?_
 simp only [zDat, Dat.row, go_sem]
 refine CallVC.same w9_ok ?_
 simp only [zSck, go_sem]
 refine CallVC.same (is_ok _ _ _) ?_
 simp only [go_sem]
 refine CallVC.same w1_ok ?_
 simp only [putP, go_sem]
 refine CallVC.same (is1_ok _ _ _ (by simp) (by simp) (by simp) true true true true true true 3 3 9 0 3 b1W _ bW_len.1 h1W (by simp [Tx.look]) (by simp [Tx.look]) (by simp [Tx.look])) ?_
 simp only [go_sem]
 refine CallVC.same (is_ok _ _ _) ?_
 simp only [go_sem]
 refine CallVC.gen (args2 := [sackP 9 1000 [(2, 3)] [7]]) (by simp [WkL, Wk, sackP, kE, eI]) w2_ok ?_
 simp only [putP, sackP, kE, eI, wkNL, wkN, unown, List.map_cons, go_sem]
 refine CallVC.same (is1_ok _ _ _ (by simp) (by simp) (by simp) true true true true true true 3 3 9 3 0 b2W _ bW_len.2.1 h2W (by simp [Tx.look]) (by simp [Tx.look]) (by simp [Tx.look])) ?_
 simp only [go_sem]
 refine CallVC.gen (args2 := [sackP 0 0 [(2, 3), (4, 5)] []]) (by simp [WkL, Wk, sackP, kE]) w3_ok ?_
 simp only [fldP, sackP, kE, wkNL, wkN, unown, List.map_cons, go_sem]
 refine CallVC.same lawFails_ok ?_
 simp only [go_sem]
 refine CallVC.gen (args2 := [sackP 0 0 [(1, 1)] []]) (by simp [WkL, Wk, sackP, kE]) w4_ok ?_
 simp only [fldP, sackP, kE, wkNL, wkN, unown, List.map_cons, go_sem]
 refine CallVC.same lawFails_ok ?_
 simp only [go_sem]
 refine CallVC.same w5_ok ?_
 simp only [fldP, go_sem]
 refine CallVC.same lawFails_ok ?_
 simp only [go_sem]
 refine CallVC.same (is_ok _ _ _) ?_
 simp only [go_sem]
 refine CallVC.gen (args2 := [fwdP 5 [(1, 7)]]) (by simp [WkL, Wk, fwdP, kE]) w6_ok ?_
 simp only [putP, fwdP, kE, wkNL, wkN, unown, List.map_cons, go_sem]
 refine CallVC.same (is1_ok _ _ _ (by simp) (by simp) (by simp) true true true true true true 3 3 9 192 0 b3W _ bW_len.2.2.1 h3W (by simp [Tx.look]) (by simp [Tx.look]) (by simp [Tx.look])) ?_
 simp only [go_sem]
 refine CallVC.same (is_ok _ _ _) ?_
 simp only [go_sem]
 refine CallVC.gen (args2 := [rstP 2 6 0 1 (.fs 1 (([] : List Int).map eI))]) (by simp [WkL, Wk, rstP]) w7_ok ?_
 simp only [putP, rstP, wkNL, wkN, unown, List.map_nil, go_sem]
 refine CallVC.same (is1_ok _ _ _ (by simp) (by simp) (by simp) true true true true true true 3 3 9 130 0 b4W _ bW_len.2.2.2 h4W (by simp [Tx.look]) (by simp [Tx.look]) (by simp [Tx.look])) ?_
 simp only [go_sem]
 refine CallVC.gen (args2 := [.agg pW.row, .agg pW.row]) (by simp [WkL, Wk, Pkx.row, Ckx.row, pW]) (rSameP_ok pW pW (by simp [pW]) (by simp [pW]) true (by simp)) ?_
 simp only [wkNL, wkN, unown, Pkx.row, Ckx.row, pW, List.map_cons, List.map_nil, hl, hl15, go_sem]
 repeat refine sd2 ?_
 refine CallVC.same (refuses_ok (sW.take 15 ++ [5]) 5 (fun F L nx => decodeNo_ok _ (by rw [List.length_append, hl15]; simp) (by rw [List.length_append, hl15]; simp) sW_bad)) ?_
 simp only [hl, go_sem]
 repeat refine sd2 ?_
 refine CallVC.same (refuses_ok (sW.take 15) 7 (fun F L nx => decodeShort_ok _ (by rw [hl15]; omega))) ?_
 simp only [hn2, hn5, go_sem]
 repeat refine sd2 ?_
 exact .bool (.inr rfl) rfl rfl (by simp [UpdAll])
end Go.Proofs.YtaacfnngodhecaaGreatDoor
end
section
namespace Go.Proofs.YtaacfnngodhecaaGreatDoor
open Go.Tx
theorem byN_nat (v : Nat) : (byN v).toNat = v % 256 := by simp [byN]
theorem getB_fold : ∀ (l : List UInt8) (v : Nat), l.foldl (fun v c => v * 256 + c.toNat) v = v * 256 ^ l.length + getB l
 | [], v => by simp [getB]
 | a :: l, v => by
  have e1 := getB_fold l (v * 256 + a.toNat)
  have e2 := getB_fold l (0 * 256 + a.toNat)
  simp only [List.foldl_cons, getB] at e1 e2 ⊢
  rw [e1, e2, List.length_cons, Nat.pow_succ]
  have : (v * 256 + a.toNat) * 256 ^ l.length = v * (256 ^ l.length * 256) + (0 * 256 + a.toNat) * 256 ^ l.length := by
   rw [Nat.add_mul, Nat.mul_assoc, Nat.mul_comm 256 (256 ^ l.length)]; simp
  omega
theorem getB_cons (a : UInt8) (l : List UInt8) : getB (a :: l) = a.toNat * 256 ^ l.length + getB l := by
 have := getB_fold l (0 * 256 + a.toNat)
 simpa [getB] using this
theorem getB_put (n v : Nat) : getB (putB n v) = v % 256 ^ n := by
 induction n with
 | zero => simp [putB, getB, Nat.mod_one]
 | succ n ih =>
  rw [putB_succ, getB_cons, ih, putB_len, byN_nat, Nat.mod_pow_succ, Nat.mul_comm]
  omega
theorem getB_putB {n v : Nat} (h : v < 256 ^ n) : getB (putB n v) = v := by rw [getB_put, Nat.mod_eq_of_lt h]
theorem drop_at {A R : List UInt8} {p : Nat} (h : p = A.length) : (A ++ R).drop p = R := by subst h; simp
theorem take_at {A R : List UInt8} {n : Nat} (h : n = A.length) : (A ++ R).take n = A := by subst h; simp
theorem num_at {A R : List UInt8} {p n v : Nat} (hp : p = A.length) (hv : v < 256 ^ n) : getB (((A ++ (putB n v ++ R)).drop p).take n) = v := by
 rw [drop_at hp, take_at (putB_len n v).symm, getB_putB hv]
theorem numsG_cons (s : List UInt8) (p k n : Nat) : numsG s p k (n + 1) = getB ((s.drop p).take k) :: numsG s (p + k) k n := by
 simp only [numsG, List.range_succ_eq_map, List.map_cons, List.map_map, Nat.mul_zero, Nat.add_zero]
 congr 1
 apply List.map_congr_left
 intro j _
 simp only [Function.comp]
 rw [show p + k * (j + 1) = p + k + k * j by rw [Nat.mul_add]; omega]
theorem pairsG_cons (s : List UInt8) (p n : Nat) : pairsG s p (n + 1) = (getB ((s.drop p).take 2), getB ((s.drop (p + 2)).take 2)) :: pairsG s (p + 4) n := by
 simp only [pairsG, List.range_succ_eq_map, List.map_cons, List.map_map, Nat.mul_zero, Nat.add_zero]
 congr 1
 apply List.map_congr_left
 intro j _
 simp only [Function.comp]
 rw [show p + 4 * (j + 1) = p + 4 + 4 * j by omega]
theorem nums_at {k : Nat} : ∀ (xs : List Nat) (A R : List UInt8) (p : Nat), p = A.length → (∀ x ∈ xs, x < 256 ^ k) → numsG (A ++ (xs.flatMap (putB k) ++ R)) p k xs.length = xs
 | [], _, _, _, _, _ => rfl
 | x :: xs, A, R, p, hp, h => by
  rw [List.length_cons, numsG_cons, List.flatMap_cons, List.append_assoc, num_at hp (h x (by simp))]
  have ih := nums_at xs (A ++ putB k x) R (p + k) (by simp [putB_len, hp]) (fun y hy => h y (by simp [hy]))
  rw [List.append_assoc] at ih
  rw [ih]
theorem pairs_at : ∀ (xs : List (Nat × Nat)) (A R : List UInt8) (p : Nat), p = A.length → (∀ x ∈ xs, x.1 < 65536 ∧ x.2 < 65536) → pairsG (A ++ ((xs.flatMap fun k => putB 2 k.1 ++ putB 2 k.2) ++ R)) p xs.length = xs
 | [], _, _, _, _, _ => rfl
 | x :: xs, A, R, p, hp, h => by
  have hx := h x (by simp)
  rw [List.length_cons, pairsG_cons, List.flatMap_cons]
  have e1 : A ++ (putB 2 x.1 ++ putB 2 x.2 ++ (xs.flatMap fun k => putB 2 k.1 ++ putB 2 k.2) ++ R) = A ++ (putB 2 x.1 ++ (putB 2 x.2 ++ ((xs.flatMap fun k => putB 2 k.1 ++ putB 2 k.2) ++ R))) := by simp
  have e2 : A ++ (putB 2 x.1 ++ (putB 2 x.2 ++ ((xs.flatMap fun k => putB 2 k.1 ++ putB 2 k.2) ++ R))) = (A ++ putB 2 x.1) ++ (putB 2 x.2 ++ ((xs.flatMap fun k => putB 2 k.1 ++ putB 2 k.2) ++ R)) := by simp
  have e3 : A ++ (putB 2 x.1 ++ (putB 2 x.2 ++ ((xs.flatMap fun k => putB 2 k.1 ++ putB 2 k.2) ++ R))) = (A ++ (putB 2 x.1 ++ putB 2 x.2)) ++ ((xs.flatMap fun k => putB 2 k.1 ++ putB 2 k.2) ++ R) := by simp
  rw [e1, num_at hp (by omega)]
  have f2 : getB (((A ++ (putB 2 x.1 ++ (putB 2 x.2 ++ ((xs.flatMap fun k => putB 2 k.1 ++ putB 2 k.2) ++ R)))).drop (p + 2)).take 2) = x.2 := by
   rw [e2]; exact num_at (by simp [putB_len, hp]) (by omega)
  rw [f2]
  have ih := pairs_at xs (A ++ (putB 2 x.1 ++ putB 2 x.2)) R (p + 4) (by simp [putB_len, hp]) (fun y hy => h y (by simp [hy]))
  rw [e3, ih]
theorem flD_bits (la fi lo : Bool) : decide (Sx.ibits .and .i64 (flD la fi lo 3) 2 > 0) = fi ∧ decide (Sx.ibits .and .i64 (flD la fi lo 3) 1 > 0) = la ∧ decide (Sx.ibits .and .i64 (flD la fi lo 3) 4 > 0) = lo := by
 cases la <;> cases fi <;> cases lo <;> exact ⟨by decide, by decide, by decide⟩
theorem dataBack {d : Dat} (h : d.ok = true) : getDatV ⟨0, flD d.la d.fi d.lo 3, dataB d⟩ = .tup [.agg d.row, .int .i64 0] := by
 have h0 := h
 unfold Dat.ok at h
 simp only [Bool.and_eq_true] at h
 obtain ⟨⟨h1, h2⟩, ⟨h3, h4⟩, _⟩ := h
 obtain ⟨a1, a2⟩ := serB_nat h1
 obtain ⟨b1, b2⟩ := serB_nat h2
 obtain ⟨c1, c2⟩ := serB_nat h3
 obtain ⟨d1, d2⟩ := serB_nat h4
 have hd : datG ⟨0, flD d.la d.fi d.lo 3, dataB d⟩ = d := by
  obtain ⟨f1, f2, f3⟩ := flD_bits d.la d.fi d.lo
  simp only [datG, f1, f2, f3]
  have e0 : dataB d = [] ++ (putB 4 d.tsn.toNat ++ (putB 2 d.st.toNat ++ (putB 2 d.sq.toNat ++ (putB 4 d.pr.toNat ++ d.pl)))) := by simp [dataB]
  have e4 : dataB d = putB 4 d.tsn.toNat ++ (putB 2 d.st.toNat ++ (putB 2 d.sq.toNat ++ (putB 4 d.pr.toNat ++ d.pl))) := by simp [dataB]
  have e6 : dataB d = (putB 4 d.tsn.toNat ++ putB 2 d.st.toNat) ++ (putB 2 d.sq.toNat ++ (putB 4 d.pr.toNat ++ d.pl)) := by simp [dataB]
  have e8 : dataB d = (putB 4 d.tsn.toNat ++ putB 2 d.st.toNat ++ putB 2 d.sq.toNat) ++ (putB 4 d.pr.toNat ++ d.pl) := by simp [dataB]
  have e12 : dataB d = (putB 4 d.tsn.toNat ++ putB 2 d.st.toNat ++ putB 2 d.sq.toNat ++ putB 4 d.pr.toNat) ++ d.pl := by simp [dataB]
  have g0 : getB ((dataB d).take 4) = d.tsn.toNat := by
   have := num_at (A := []) (n := 4) (R := putB 2 d.st.toNat ++ (putB 2 d.sq.toNat ++ (putB 4 d.pr.toNat ++ d.pl))) (p := 0) rfl a2
   rw [← e0] at this; simpa using this
  have g4 : getB (((dataB d).drop 4).take 2) = d.st.toNat := by rw [e4]; exact num_at (by simp [putB_len]) c2
  have g6 : getB (((dataB d).drop 6).take 2) = d.sq.toNat := by rw [e6]; exact num_at (by simp [putB_len]) d2
  have g8 : getB (((dataB d).drop 8).take 4) = d.pr.toNat := by rw [e8]; exact num_at (by simp [putB_len]) b2
  have g12 : (dataB d).drop 12 = d.pl := by rw [e12]; exact drop_at (by simp [putB_len])
  rw [g0, g4, g6, g8, g12, ← a1, ← b1, ← c1, ← d1]
 have hl : 12 ≤ (dataB d).length := by simp [dataB, putB_len]; omega
 have hok : datOk ⟨0, flD d.la d.fi d.lo 3, dataB d⟩ = true := by
  unfold datOk
  rw [hd]
  simp [hl, h0]
 unfold getDatV
 rw [if_pos rfl, if_pos hok, hd]
theorem iniBack {d : Ini} (h : d.ok = true) : getIniV ⟨iniK d.ck, 0, d.oct⟩ = .tup [.agg d.row, .int .i64 0] := by
 have h0 := h
 unfold Ini.ok at h
 simp only [Bool.and_eq_true] at h
 obtain ⟨⟨h1, h2, h3⟩, ⟨h4, h5⟩, _⟩ := h
 obtain ⟨a1, a2⟩ := serB_nat h1
 obtain ⟨b1, b2⟩ := serB_nat h2
 obtain ⟨c1, c2⟩ := serB_nat h3
 obtain ⟨d1, d2⟩ := serB_nat h4
 obtain ⟨x1, x2⟩ := serB_nat h5
 have e0 : d.oct = [] ++ (putB 4 d.tag.toNat ++ (putB 4 d.win.toNat ++ (putB 2 d.out.toNat ++ (putB 2 d.inn.toNat ++ (putB 4 d.tsn.toNat ++ d.ck))))) := by simp [Ini.oct, iniB]
 have e4 : d.oct = putB 4 d.tag.toNat ++ (putB 4 d.win.toNat ++ (putB 2 d.out.toNat ++ (putB 2 d.inn.toNat ++ (putB 4 d.tsn.toNat ++ d.ck)))) := by simp [Ini.oct, iniB]
 have e8 : d.oct = (putB 4 d.tag.toNat ++ putB 4 d.win.toNat) ++ (putB 2 d.out.toNat ++ (putB 2 d.inn.toNat ++ (putB 4 d.tsn.toNat ++ d.ck))) := by simp [Ini.oct, iniB]
 have e10 : d.oct = (putB 4 d.tag.toNat ++ putB 4 d.win.toNat ++ putB 2 d.out.toNat) ++ (putB 2 d.inn.toNat ++ (putB 4 d.tsn.toNat ++ d.ck)) := by simp [Ini.oct, iniB]
 have e12 : d.oct = (putB 4 d.tag.toNat ++ putB 4 d.win.toNat ++ putB 2 d.out.toNat ++ putB 2 d.inn.toNat) ++ (putB 4 d.tsn.toNat ++ d.ck) := by simp [Ini.oct, iniB]
 have e16 : d.oct = (putB 4 d.tag.toNat ++ putB 4 d.win.toNat ++ putB 2 d.out.toNat ++ putB 2 d.inn.toNat ++ putB 4 d.tsn.toNat) ++ d.ck := by simp [Ini.oct, iniB]
 have hd : iniG ⟨iniK d.ck, 0, d.oct⟩ = d := by
  simp only [iniG]
  have g0 : getB (d.oct.take 4) = d.tag.toNat := by
   have := num_at (A := []) (n := 4) (R := putB 4 d.win.toNat ++ (putB 2 d.out.toNat ++ (putB 2 d.inn.toNat ++ (putB 4 d.tsn.toNat ++ d.ck)))) (p := 0) rfl a2
   rw [← e0] at this; simpa using this
  have g4 : getB ((d.oct.drop 4).take 4) = d.win.toNat := by rw [e4]; exact num_at (by simp [putB_len]) b2
  have g8 : getB ((d.oct.drop 8).take 2) = d.out.toNat := by rw [e8]; exact num_at (by simp [putB_len]) d2
  have g10 : getB ((d.oct.drop 10).take 2) = d.inn.toNat := by rw [e10]; exact num_at (by simp [putB_len]) x2
  have g12 : getB ((d.oct.drop 12).take 4) = d.tsn.toNat := by rw [e12]; exact num_at (by simp [putB_len]) c2
  have g16 : d.oct.drop 16 = d.ck := by rw [e16]; exact drop_at (by simp [putB_len])
  rw [g0, g4, g8, g10, g12, g16, ← a1, ← b1, ← c1, ← d1, ← x1]
 have hl : 16 ≤ d.oct.length := by rw [e16]; simp [putB_len]; omega
 have hok : iniOk ⟨iniK d.ck, 0, d.oct⟩ = true := by
  unfold iniOk
  rw [hd]
  simp [hl, h0]
 unfold getIniV
 rw [if_pos (by unfold iniK; split <;> simp), if_pos hok, hd]
theorem mapN (xs : List Int) (h : ∀ x ∈ xs, 0 ≤ x) : (xs.map Int.toNat).map (fun x : Nat => (x : Int)) = xs := by
 rw [List.map_map]
 conv => rhs; rw [← List.map_id xs]
 apply List.map_congr_left
 intro x hx
 have := h x hx
 simp only [Function.comp, id]; omega
theorem mapK (xs : List (Int × Int)) (h : ∀ x ∈ xs, 0 ≤ x.1 ∧ 0 ≤ x.2) : (xs.map fun k => (k.1.toNat, k.2.toNat)).map kN = xs := by
 rw [List.map_map]
 conv => rhs; rw [← List.map_id xs]
 apply List.map_congr_left
 intro x hx
 have := h x hx
 simp only [Function.comp, id, kN]
 exact Prod.ext (by simp only []; omega) (by simp only []; omega)
theorem getD_mem {α : Type} {xs : List α} {x a : α} (h : x ∈ xs) : ∃ i, i < xs.length ∧ xs.getD i a = x := by
 obtain ⟨i, hi, e⟩ := List.getElem_of_mem h
 exact ⟨i, hi, by simp [List.getD_eq_getElem?_getD, hi, e]⟩
theorem fwdB {cum : Int} {sk : List (Int × Int)} (h : fwdV cum sk = true) : (∀ x ∈ sk, 0 ≤ x.1 ∧ x.1 < 65536 ∧ 0 ≤ x.2 ∧ x.2 < 65536) ∧ 0 ≤ cum ∧ cum < 2 ^ 32 ∧ sk.length ≤ 30 := by
 unfold fwdV at h
 simp only [Bool.and_eq_true, List.all_eq_true, List.mem_range, decide_eq_true_eq] at h
 obtain ⟨h1, h2, h3⟩ := h
 have hc := serB_nat h2
 have hcc : cum.toNat < 4294967296 := hc.2
 refine ⟨fun x hx => ?_, by omega, by omega, h3⟩
 obtain ⟨i, hi, e⟩ := getD_mem (a := ((0, 0) : Int × Int)) hx
 have h4 := h1 i hi
 unfold okSk at h4
 rw [e] at h4
 simp only [Bool.and_eq_true] at h4
 obtain ⟨⟨q1, q2⟩, _⟩ := h4
 have p1 := serB_nat q1
 have p2 := serB_nat q2
 have p3 : x.1.toNat < 65536 := p1.2
 have p4 : x.2.toNat < 65536 := p2.2
 omega
theorem fwdBack {cum : Int} {sk : List (Int × Int)} (h : fwdV cum sk = true) : getFwxV ⟨192, 0, fwdT cum.toNat (sk.map fun k => (k.1.toNat, k.2.toNat))⟩ = .tup [fwdP cum sk, .int .i64 0] := by
 obtain ⟨b1, b2, b3, b4⟩ := fwdB h
 obtain ⟨ks, hks⟩ : ∃ ks, ks = sk.map fun k => (k.1.toNat, k.2.toNat) := ⟨_, rfl⟩
 have hkl : ks.length = sk.length := by rw [hks]; simp
 have hkb : ∀ x ∈ ks, x.1 < 65536 ∧ x.2 < 65536 := by
  intro x hx
  rw [hks] at hx
  obtain ⟨y, hy, rfl⟩ := List.mem_map.1 hx
  have := b1 y hy
  constructor
  ·show y.1.toNat < 65536; omega
  ·show y.2.toNat < 65536; omega
 have hsk : ks.map kN = sk := by rw [hks]; exact mapK sk fun x hx => ⟨(b1 x hx).1, (b1 x hx).2.2.1⟩
 rw [← hks]
 obtain ⟨s, hs⟩ : ∃ s, s = fwdT cum.toNat ks := ⟨_, rfl⟩
 have hl : s.length = 4 + 4 * ks.length := by rw [hs]; unfold fwdT; rw [List.length_append, putB_len, skT_len]
 have hc : fwdC s = ks.length := by unfold fwdC; omega
 have g0 : getB (s.take 4) = cum.toNat := by
  have := num_at (A := []) (n := 4) (v := cum.toNat) (R := ks.flatMap fun k => putB 2 k.1 ++ putB 2 k.2) (p := 0) rfl (by show cum.toNat < 4294967296; omega)
  rw [List.nil_append] at this
  rw [hs]; unfold fwdT; simpa using this
 have g4 : pairsG s 4 (fwdC s) = ks := by
  have := pairs_at ks (putB 4 cum.toNat) [] 4 (by simp [putB_len]) hkb
  rw [hc, hs]; unfold fwdT; simpa using this
 have hd : fwxG s = ⟨cum, sk⟩ := by
  unfold fwxG
  rw [g0, g4, hsk]
  congr 1
  omega
 have hok : fwxOk ⟨192, 0, s⟩ = true := by
  unfold fwxOk
  simp only [hd, Fwx.ok, Fwx.oct, h, ← hks, ← hs, Bool.true_and, decide_true, Bool.and_eq_true, decide_eq_true_eq]
  exact ⟨by omega, by rw [hc]; omega, trivial⟩
 rw [← hs]
 unfold getFwxV
 rw [if_pos rfl, if_pos hok, hd]
 rfl
theorem sackB {cum win : Int} {gs : List (Int × Int)} {ds : List Int} (h : sackV cum win gs ds = true) : (∀ x ∈ gs, 0 ≤ x.1 ∧ x.1 < 65536 ∧ 0 ≤ x.2 ∧ x.2 < 65536) ∧ (0 ≤ cum ∧ cum < 2 ^ 32) ∧ (0 ≤ win ∧ win < 2 ^ 32) ∧ gs.length ≤ 30 ∧ ds.length ≤ 20 ∧ ∀ x ∈ ds, 0 ≤ x ∧ x < 2 ^ 32 := by
 unfold sackV at h
 simp only [Bool.and_eq_true, List.all_eq_true, List.mem_range, decide_eq_true_eq] at h
 obtain ⟨h1, ⟨h2, h3⟩, h4, h5, h6⟩ := h
 have hc := serB_nat h2
 have hcc : cum.toNat < 4294967296 := hc.2
 have hw := serB_nat h3
 have hww : win.toNat < 4294967296 := hw.2
 have key : ∀ i, i < gs.length → 0 ≤ befG gs i ∧ 0 ≤ (gs.getD i (0, 0)).1 ∧ (gs.getD i (0, 0)).1 ≤ (gs.getD i (0, 0)).2 ∧ (gs.getD i (0, 0)).2 ≤ 65535 := by
  intro i
  induction i with
  | zero =>
   intro hi
   have h7 := h1 0 hi
   unfold okGp at h7
   simp only [Bool.and_eq_true, decide_eq_true_eq] at h7
   have hb : befG gs 0 = 0 := by simp [befG]
   rw [hb] at h7 ⊢
   omega
  | succ i ih =>
   intro hi
   have h8 := ih (by omega)
   have h7 := h1 (i + 1) hi
   unfold okGp at h7
   simp only [Bool.and_eq_true, decide_eq_true_eq] at h7
   have hb : befG gs (i + 1) = (gs.getD i (0, 0)).2 := by simp [befG]
   rw [hb] at h7 ⊢
   omega
 refine ⟨fun x hx => ?_, by omega, by omega, h4, h5, fun x hx => ?_⟩
 ·obtain ⟨i, hi, e⟩ := getD_mem (a := ((0, 0) : Int × Int)) hx
  have := key i hi
  rw [e] at this
  omega
 ·have h7 := serB_nat (h6 x hx)
  have h8 : x.toNat < 4294967296 := h7.2
  omega
theorem sackBack {cum win : Int} {gs : List (Int × Int)} {ds : List Int} (h : sackV cum win gs ds = true) : getSckV ⟨3, 0, sackO cum win gs ds⟩ = .tup [sackP cum win gs ds, .int .i64 0] := by
 obtain ⟨b1, b2, b3, b4, b5, b6⟩ := sackB h
 obtain ⟨ks, hks⟩ : ∃ ks, ks = gs.map fun k => (k.1.toNat, k.2.toNat) := ⟨_, rfl⟩
 obtain ⟨es, hes⟩ : ∃ es, es = ds.map Int.toNat := ⟨_, rfl⟩
 have hkl : ks.length = gs.length := by rw [hks]; simp
 have hel : es.length = ds.length := by rw [hes]; simp
 have hkb : ∀ x ∈ ks, x.1 < 65536 ∧ x.2 < 65536 := by
  intro x hx
  rw [hks] at hx
  obtain ⟨y, hy, rfl⟩ := List.mem_map.1 hx
  have := b1 y hy
  constructor
  ·show y.1.toNat < 65536; omega
  ·show y.2.toNat < 65536; omega
 have heb : ∀ x ∈ es, x < 256 ^ 4 := by
  intro x hx
  rw [hes] at hx
  obtain ⟨y, hy, rfl⟩ := List.mem_map.1 hx
  have := b6 y hy
  show y.toNat < 4294967296; omega
 have hsk : ks.map kN = gs := by rw [hks]; exact mapK gs fun x hx => ⟨(b1 x hx).1, (b1 x hx).2.2.1⟩
 have hse : es.map (fun x : Nat => (x : Int)) = ds := by rw [hes]; exact mapN ds fun x hx => (b6 x hx).1
 obtain ⟨s, hs⟩ : ∃ s, s = sackO cum win gs ds := ⟨_, rfl⟩
 have hs2 : s = sackT cum.toNat win.toNat ks es := by rw [hs, hks, hes]; rfl
 obtain ⟨G, hG⟩ : ∃ G, G = ks.flatMap fun k => putB 2 k.1 ++ putB 2 k.2 := ⟨_, rfl⟩
 obtain ⟨D, hD⟩ : ∃ D, D = es.flatMap (putB 4) := ⟨_, rfl⟩
 have hGl : G.length = 4 * ks.length := by rw [hG]; exact skT_len ks
 have hDl : D.length = 4 * es.length := by
  rw [hD]
  clear heb hel hse hs2 hD hes
  induction es with
  | nil => rfl
  | cons a l ih => rw [List.flatMap_cons, List.length_append, ih, putB_len, List.length_cons]; omega
 have e0 : s = [] ++ (putB 4 cum.toNat ++ (putB 4 win.toNat ++ (putB 2 ks.length ++ (putB 2 es.length ++ (G ++ D))))) := by rw [hs2, hG, hD]; simp [sackT]
 have e4 : s = putB 4 cum.toNat ++ (putB 4 win.toNat ++ (putB 2 ks.length ++ (putB 2 es.length ++ (G ++ D)))) := by rw [hs2, hG, hD]; simp [sackT]
 have e8 : s = (putB 4 cum.toNat ++ putB 4 win.toNat) ++ (putB 2 ks.length ++ (putB 2 es.length ++ (G ++ D))) := by rw [hs2, hG, hD]; simp [sackT]
 have e10 : s = (putB 4 cum.toNat ++ putB 4 win.toNat ++ putB 2 ks.length) ++ (putB 2 es.length ++ (G ++ D)) := by rw [hs2, hG, hD]; simp [sackT]
 have e12 : s = (putB 4 cum.toNat ++ putB 4 win.toNat ++ putB 2 ks.length ++ putB 2 es.length) ++ (G ++ D) := by rw [hs2, hG, hD]; simp [sackT]
 have e16 : s = (putB 4 cum.toNat ++ putB 4 win.toNat ++ putB 2 ks.length ++ putB 2 es.length ++ G) ++ (D ++ []) := by rw [hs2, hG, hD]; simp [sackT]
 have hl : s.length = 12 + 4 * ks.length + 4 * es.length := by rw [e12]; simp [putB_len, hGl, hDl]; omega
 have hc32 : cum.toNat < 256 ^ 4 := by show cum.toNat < 4294967296; omega
 have hw32 : win.toNat < 256 ^ 4 := by show win.toNat < 4294967296; omega
 have g0 : getB (s.take 4) = cum.toNat := by
  have := num_at (A := []) (n := 4) (R := putB 4 win.toNat ++ (putB 2 ks.length ++ (putB 2 es.length ++ (G ++ D)))) (p := 0) rfl hc32
  rw [← e0] at this; simpa using this
 have g4 : getB ((s.drop 4).take 4) = win.toNat := by rw [e4]; exact num_at (by simp [putB_len]) hw32
 have g8 : sackG s = ks.length := by unfold sackG; rw [e8]; exact num_at (by simp [putB_len]) (by show _ < 65536; omega)
 have g10 : sackD s = es.length := by unfold sackD; rw [e10]; exact num_at (by simp [putB_len]) (by show _ < 65536; omega)
 have g12 : pairsG s 12 (sackG s) = ks := by
  rw [g8, e12, hG]; exact pairs_at ks _ D 12 (by simp [putB_len]) hkb
 have g16 : numsG s (12 + 4 * sackG s) 4 (sackD s) = es := by
  rw [g8, g10, e16, hD]; exact nums_at es _ [] _ (by simp [putB_len, hGl]; omega) heb
 have hd : sckG ⟨3, 0, s⟩ = ⟨cum, win, gs, ds⟩ := by
  simp only [sckG, g0, g4, g12, g16, hsk, hse]
  congr 1 <;> omega
 have hok : sckOk ⟨3, 0, s⟩ = true := by
  unfold sckOk
  simp only [hd, Skx.ok, Skx.oct, h, ← hs, decide_true, Bool.and_true, decide_eq_true_eq]
  unfold sckN
  rw [g8, g10]; omega
 rw [← hs]
 unfold getSckV
 rw [if_pos rfl, if_pos hok, hd]
 rfl
theorem serB_mk {b x : Int} (h0 : 0 ≤ x) (h : x < 2 ^ b.toNat) : serB b x = true := by unfold serB; simp [h0, h]
theorem serB_32 {x : Int} (h0 : 0 ≤ x) (h : x < 4294967296) : serB 32 x = true := serB_mk h0 h
theorem serB_16 {x : Int} (h0 : 0 ≤ x) (h : x < 65536) : serB 16 x = true := serB_mk h0 h
theorem serB_8 {x : Int} (h0 : 0 ≤ x) (h : x < 256) : serB 8 x = true := serB_mk h0 h
theorem Pcx.Ok.dat {p : Pcx} (h : p.Ok) : p.dat.ok = true := by
 have h1 := h.a
 have h2 := h.d
 have h3 := someX_len p.pl 100 (by omega)
 unfold Dat.ok Pcx.dat
 simp only [Bool.and_eq_true, Bool.or_eq_true, decide_eq_true_eq]
 refine ⟨⟨serB_32 (by omega) (by omega), serB_32 (by omega) (by omega)⟩, ⟨serB_16 (by omega) (by omega), ?_⟩, by omega, by omega, ?_⟩
 ·split
  ·exact serB_16 (by omega) (by omega)
  ·exact serB_16 (by omega) (by omega)
 ·cases p.lo <;> simp
theorem Pcx.Ok.ini {p : Pcx} (h : p.Ok) (ck : Bool) : (p.ini ck).ok = true := by
 have h1 := h.a
 have h2 := h.b
 have h4 := h.d
 have h3 := someX_len p.pl 200 (by omega)
 unfold Ini.ok Pcx.ini
 simp only [Bool.and_eq_true, decide_eq_true_eq]
 refine ⟨⟨serB_32 (by omega) (by omega), serB_32 (by omega) (by omega), serB_32 (by omega) (by omega)⟩, ⟨serB_16 (by omega) (by omega), serB_16 (by omega) (by omega)⟩, by omega, by omega, by omega, ?_⟩
 cases ck
 ·simp
 ·simp only [if_true]; omega
def Pcx.rst (p : Pcx) : Rsx := if p.m8 then ⟨2, p.a, 0, ((p.b % 256 : Nat) : Int), []⟩ else ⟨1, p.a, p.b, 0, p.ss p.n9⟩
theorem Pcx.ss_at (p : Pcx) {n i : Nat} (h : i < n + 1) : (p.ss n).getD i 0 = (p.sa i : Int) := by
 simp [Pcx.ss, List.getD_eq_getElem?_getD, h]
theorem Pcx.Ok.rst {p : Pcx} (h : p.Ok) : resetV p.rst.kind p.rst.num p.rst.last p.rst.res p.rst.xs = true := by
 have h1 := h.a
 have h2 := h.b
 have hn : p.n9 ≤ 29 := by unfold Pcx.n9; omega
 unfold Pcx.rst
 cases p.m8 with
 | true =>
  simp only [if_true]
  unfold resetV
  simp only [Bool.and_eq_true]
  refine ⟨⟨⟨⟨rfl, serB_32 (by omega) (by omega)⟩, serB_32 (by omega) (by omega)⟩, serB_8 (by omega) (by omega)⟩, by simp⟩
 | false =>
  simp only [Bool.false_eq_true, if_false]
  unfold resetV
  simp only [Bool.and_eq_true]
  refine ⟨⟨⟨⟨?_, serB_32 (by omega) (by omega)⟩, serB_32 (by omega) (by omega)⟩, serB_8 (by omega) (by omega)⟩, ?_⟩
  ·unfold incB
   simp only [List.all_eq_true, List.mem_range, Pcx.ss_len, Bool.and_eq_true, Bool.or_eq_true, beq_iff_eq, decide_eq_true_eq]
   intro i hi
   have hf := Pcx.sa_le h i
   rw [p.ss_at hi]
   refine ⟨serB_16 (by omega) (by omega), ?_⟩
   cases i with
   | zero => exact .inl rfl
   | succ i =>
    right
    rw [show i + 1 - 1 = i from rfl, p.ss_at (show i < p.n9 + 1 by omega)]
    simp only [Pcx.sa]
    omega
  ·rw [if_neg (by omega)]
   simp [Pcx.ss_len]; omega
end Go.Proofs.YtaacfnngodhecaaGreatDoor
end
section
namespace Go.Proofs.YtaacfnngodhecaaGreatDoor
open Go.Tx
set_option maxRecDepth 100000
set_option maxHeartbeats 16000000
theorem serB8 {n : Int} (h : serB 8 n = true) : 0 ≤ n ∧ n ≤ 255 := by
 unfold serB at h; simp at h; omega
end Go.Proofs.YtaacfnngodhecaaGreatDoor
end
section
namespace Go.Proofs.YtaacfnngodhecaaGreatDoor
open Go.Tx
theorem dataB_len (d : Dat) : (dataB d).length = 12 + d.pl.length := by
 unfold dataB; simp only [List.length_append, putB_len]; try omega
theorem ini_oct_len (d : Ini) : d.oct.length = 16 + d.ck.length := by
 unfold Ini.oct iniB; simp only [List.length_append, putB_len]; try omega
theorem fwdT_len (cum : Nat) (sk : List (Nat × Nat)) : (fwdT cum sk).length = 4 + 4 * sk.length := by
 unfold fwdT; rw [List.length_append, putB_len, skT_len]
theorem sackO_len (c w : Int) (gs : List (Int × Int)) (ds : List Int) : (sackO c w gs ds).length = 12 + 4 * gs.length + 4 * ds.length := by
 unfold sackO sackT
 simp only [List.length_append, putB_len, skT_len, flat_len, List.length_map]
 try omega
end Go.Proofs.YtaacfnngodhecaaGreatDoor
end
section
namespace Go.Proofs.YtaacfnngodhecaaGreatDoor
open Go.Tx
set_option maxRecDepth 100000
set_option maxHeartbeats 16000000
structure Edx where
 a : Nat
 n : Nat
 t : List UInt8
def Edx.row (e : Edx) : List PV := [.int .u16 e.a, .int .u8 e.n, .str e.t]
structure Edx.Ok (e : Edx) : Prop where
 a : e.a < 65536
 n : e.n < 256
 t : e.t.length ≤ maxLen
def Edx.of (e : Edx) (s : List UInt8) : List UInt8 := s.take (e.a % (s.length + 1)) ++ e.t.take 8 ++ s.drop (e.a % (s.length + 1) + e.n % 5)
def kds : List Nat := [4, 5, 6, 7, 8, 10, 11, 14]
def Pcx.chk (p : Pcx) : Ckx := match p.w % 8 with
 | 0 => ⟨0, flD p.dat.la p.dat.fi p.dat.lo 3, dataB p.dat⟩
 | 1 => ⟨0, flD p.dat.la p.dat.fi p.dat.lo 3, dataB p.dat⟩
 | 2 => ⟨3, 0, sackO p.a p.b ((p.gp p.n).map kN) ((p.db (p.c % 6)).map fun x : Nat => (x : Int))⟩
 | 3 => ⟨iniK (p.ini p.m8).ck, 0, (p.ini p.m8).oct⟩
 | 4 => ⟨192, 0, fwdT p.a (p.sk p.n)⟩
 | 5 => ⟨130, 0, resetB p.rst.kind p.rst.num p.rst.last p.rst.res p.rst.xs⟩
 | _ => ⟨(kds.getD (p.w / 8 % 8) 0 : Nat), (p.a % 2 : Nat), p.pl.take 60⟩
theorem dat_ok_len {d : Dat} (h : d.ok = true) : d.pl.length ≤ 1100 := by
 unfold Dat.ok at h
 simp only [Bool.and_eq_true, decide_eq_true_eq] at h
 omega
theorem ini_ok_len {d : Ini} (h : d.ok = true) : d.ck.length ≤ 200 := by
 unfold Ini.ok at h
 simp only [Bool.and_eq_true, decide_eq_true_eq] at h
 omega
structure Dfx where
 fr : Nat
 tt : Nat
 tg : Nat
 ps : List Pcx
def Dfx.row (d : Dfx) : List PV := [.int .u16 d.fr, .int .u16 d.tt, .int .u32 d.tg, .fs 7 (d.ps.map Pcx.row)]
structure Dfx.Ok (d : Dfx) : Prop where
 fr : d.fr < 65536
 tt : d.tt < 65536
 tg : d.tg < 4294967296
 l : d.ps.length ≤ maxLen
 p : ∀ p ∈ d.ps, p.Ok
def Dfx.pk (d : Dfx) (cs : List Ckx) : Pkx := ⟨d.fr, d.tt, d.tg, cs⟩
def Dfx.ch (d : Dfx) (i : Nat) : Ckx := ((d.ps.map Pcx.chk).getD i ⟨11, 0, []⟩)
def Dfx.cs (d : Dfx) : Nat → List Ckx
 | 0 => []
 | i + 1 => if (d.pk (d.cs i ++ [d.ch i])).ok then d.cs i ++ [d.ch i] else d.cs i
def Dfx.n (d : Dfx) : Nat := min d.ps.length 6
def Dfx.all (d : Dfx) : List Ckx := if d.cs d.n = [] then [⟨11, 0, []⟩] else d.cs d.n
theorem le4_len (v : Nat) : (le4 v).length = 4 := rfl
theorem serB8n {n : Int} (h : serB 8 n = true) : n = ((n.toNat : Nat) : Int) ∧ n.toNat < 256 := by
 have := serB8 h; omega
theorem ck_read {X R : List UInt8} {c : Ckx} (hc : c.ok = true) :
  lnAt (X ++ (ckB c ++ R)) X.length = 4 + c.bd.length ∧ ckGood (X ++ (ckB c ++ R)) X.length = true ∧ ckNx X.length (4 + c.bd.length) = X.length + (ckB c).length ∧ ckOf (X ++ (ckB c ++ R)) X.length (4 + c.bd.length) = c := by
 unfold Ckx.ok at hc
 simp only [Bool.and_eq_true, decide_eq_true_eq] at hc
 obtain ⟨⟨h1, h2⟩, h3⟩ := hc
 obtain ⟨k1, k2⟩ := serB8n h1
 obtain ⟨f1, f2⟩ := serB8n h2
 have lz : ∀ n, (zer n).length = n := fun n => by simp [zer]
 have e : ∀ R : List UInt8, X ++ (ckB c ++ R) = X ++ (putB 1 c.kd.toNat ++ (putB 1 c.fl.toNat ++ (putB 2 (4 + c.bd.length) ++ (c.bd ++ (zer ((4 - c.bd.length % 4) % 4) ++ R))))) := fun R => by
  simp only [ckB, padS, List.append_assoc]
 have hl : lnAt (X ++ (ckB c ++ R)) X.length = 4 + c.bd.length := by
  rw [e]
  unfold lnAt
  rw [← List.append_assoc, ← List.append_assoc]
  exact num_at (by simp only [List.length_append, putB_len]) (by omega)
 have hlen : (ckB c).length = 4 + c.bd.length + (4 - c.bd.length % 4) % 4 := by
  simp only [ckB, padS, List.length_append, putB_len, lz]; omega
 have hm : (4 - (4 + c.bd.length) % 4) % 4 = (4 - c.bd.length % 4) % 4 := by omega
 refine ⟨hl, ?_, ?_, ?_⟩
 ·unfold ckGood
  rw [hl, hm]
  simp only [Bool.and_eq_true, decide_eq_true_eq, List.length_append, hlen]
  refine ⟨by omega, by omega, by omega, ?_⟩
  rw [e]
  rw [show X ++ (putB 1 c.kd.toNat ++ (putB 1 c.fl.toNat ++ (putB 2 (4 + c.bd.length) ++ (c.bd ++ (zer ((4 - c.bd.length % 4) % 4) ++ R))))) = (X ++ (putB 1 c.kd.toNat ++ (putB 1 c.fl.toNat ++ (putB 2 (4 + c.bd.length) ++ c.bd)))) ++ (zer ((4 - c.bd.length % 4) % 4) ++ R) by simp only [List.append_assoc]]
  rw [drop_at (by simp only [List.length_append, putB_len]; omega), take_at (by rw [lz])]
  simp [zer, List.all_replicate]
 ·unfold ckNx
  rw [hlen, hm]; omega
 ·unfold ckOf
  have a1 : getB (((X ++ (ckB c ++ R)).drop X.length).take 1) = c.kd.toNat := by
   rw [e]; exact num_at rfl (by omega)
  have a2 : getB (((X ++ (ckB c ++ R)).drop (X.length + 1)).take 1) = c.fl.toNat := by
   rw [e, ← List.append_assoc]; exact num_at (by simp only [List.length_append, putB_len]) (by omega)
  have a3 : ((X ++ (ckB c ++ R)).drop (X.length + 4)).take (4 + c.bd.length - 4) = c.bd := by
   rw [e]
   rw [show X ++ (putB 1 c.kd.toNat ++ (putB 1 c.fl.toNat ++ (putB 2 (4 + c.bd.length) ++ (c.bd ++ (zer ((4 - c.bd.length % 4) % 4) ++ R))))) = (X ++ (putB 1 c.kd.toNat ++ (putB 1 c.fl.toNat ++ putB 2 (4 + c.bd.length)))) ++ (c.bd ++ (zer ((4 - c.bd.length % 4) % 4) ++ R)) by simp only [List.append_assoc]]
   rw [drop_at (by simp only [List.length_append, putB_len]), take_at (by omega)]
  rw [a1, a2, a3, ← k1, ← f1]
theorem szs_mem : ∀ {cs : List Ckx}, 4 * cs.length ≤ szs cs
 | [] => by simp [szs]
 | c :: l => by
  have := szs_mem (cs := l)
  simp only [szs, List.map_cons, List.sum_cons, List.length_cons, Ckx.sz] at this ⊢
  omega
theorem enc_len {p : Pkx} (h : p.ok = true) : (encS p).length = 12 + szs p.cs ∧ 16 ≤ (encS p).length ∧ (encS p).length ≤ 1200 := by
 unfold Pkx.ok Pkx.hd at h
 simp only [Bool.and_eq_true, decide_eq_true_eq] at h
 obtain ⟨⟨⟨⟨_, h4⟩, h5⟩, h6⟩, h7⟩ := h
 have := szs_mem (cs := p.cs)
 have hl : 12 ≤ (pkB p).length := by rw [pkB_len]; omega
 have h8 : ((pkB p).take 8).length = 8 := by rw [List.length_take]; omega
 have : (encS p).length = 12 + szs p.cs := by
  unfold encS sumS
  rw [List.length_append, List.length_append, h8, le4_len, List.length_drop, pkB_len]; omega
 omega
structure GetPut (c : Ckx) (g p : FuncId) (x : PV) : Prop where
 g : ∀ (F : SF) (L nx : Nat), Con Tryz.prog g [.agg c.row] F L nx nx (.tup [x, .int .i64 0]) [] []
 p : ∀ (F : SF) (L nx : Nat), Con Tryz.prog p [x] F L nx nx (.tup [.agg c.row, .int .i64 0]) [] []
theorem gpD (d : Dat) (h : d.ok = true) : GetPut ⟨0, flD d.la d.fi d.lo 3, dataB d⟩ 43 21 (.agg d.row) := by
 refine ⟨fun F L nx => ?_, fun F L nx => ?_⟩
 ·have h2 := getDataT_ok (F := F) (L := L) (nx := nx) ⟨0, flD d.la d.fi d.lo 3, dataB d⟩ (by
   have := dat_ok_len h
   show (dataB d).length ≤ _
   rw [dataB_len]; omega)
  rw [dataBack h] at h2
  exact h2
 ·have h1 := putData_ok (F := F) (L := L) (nx := nx) d
  rw [h, if_pos rfl] at h1
  exact h1
theorem gpI (d : Ini) (h : d.ok = true) : GetPut ⟨iniK d.ck, 0, d.oct⟩ 44 30 (.agg d.row) := by
 refine ⟨fun F L nx => ?_, fun F L nx => ?_⟩
 ·have h2 := getInitT_ok (F := F) (L := L) (nx := nx) ⟨iniK d.ck, 0, d.oct⟩ (by
   have := ini_ok_len h
   show d.oct.length ≤ _
   rw [ini_oct_len]; omega)
  rw [iniBack h] at h2
  exact h2
 ·have h1 := putInit_ok (F := F) (L := L) (nx := nx) d
  rw [h, if_pos rfl] at h1
  exact h1
theorem gpS (c w : Int) (gs : List (Int × Int)) (ds : List Int) (h : sackV c w gs ds = true) : GetPut ⟨3, 0, sackO c w gs ds⟩ 45 26 (sackP c w gs ds) := by
 obtain ⟨_, _, _, h4, h5, _⟩ := sackB h
 refine ⟨fun F L nx => ?_, fun F L nx => ?_⟩
 ·have h2 := getSackT_ok (F := F) (L := L) (nx := nx) ⟨3, 0, sackO c w gs ds⟩ (by
   show (sackO c w gs ds).length ≤ _
   rw [sackO_len]; omega)
  rw [sackBack h] at h2
  exact h2
 ·have h1 := putSack_ok (F := F) (L := L) (nx := nx) c w gs ds (by omega) (by omega)
  rw [h, if_pos rfl] at h1
  exact h1
theorem gpF (c : Int) (sk : List (Int × Int)) (h : fwdV c sk = true) : GetPut ⟨192, 0, fwdT c.toNat (sk.map fun k => (k.1.toNat, k.2.toNat))⟩ 46 34 (fwdP c sk) := by
 obtain ⟨_, _, _, h4⟩ := fwdB h
 refine ⟨fun F L nx => ?_, fun F L nx => ?_⟩
 ·have h2 := getForwardT_ok (F := F) (L := L) (nx := nx) ⟨192, 0, fwdT c.toNat (sk.map fun k => (k.1.toNat, k.2.toNat))⟩ (by
   show (fwdT _ _).length ≤ _
   rw [fwdT_len, List.length_map]; omega)
  rw [fwdBack h] at h2
  exact h2
 ·have h1 := putForward_ok (F := F) (L := L) (nx := nx) c sk (by omega)
  rw [h, if_pos rfl] at h1
  exact h1
end Go.Proofs.YtaacfnngodhecaaGreatDoor
end
