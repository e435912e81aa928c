/- Lemmas for the walk: WK27, WK46, WK28, WD20, WD21, WK47. -/
import Derived.Test.YtaacfnngodhecaaGreatDoorP18
import Derived.Test.YtaacfnngodhecaaGreatDoorP19
import Derived.Test.YtaacfnngodhecaaGreatDoorP17
import Derived.Test.YtaacfnngodhecaaGreatDoorP13
import Derived.Test.YtaacfnngodhecaaGreatDoorP14
set_option linter.all false
section
namespace Go.Proofs.YtaacfnngodhecaaGreatDoor
open Go.Tx
set_option maxRecDepth 100000
set_option maxHeartbeats 2000000
structure Rsx where
 kind : Int
 num : Int
 last : Int
 res : Int
 xs : List Int
def Rsx.v (d : Rsx) : PV := rstP d.kind d.num d.last d.res (.fs 1 (d.xs.map eI))
def Rsx.ok (d : Rsx) : Bool := resetV d.kind d.num d.last d.res d.xs
def Rsx.oct (d : Rsx) : List UInt8 := resetB d.kind d.num d.last d.res d.xs
def rsxG (s : List UInt8) : Rsx := if getB (s.take 1) = 1 then ⟨1, getB ((s.drop 1).take 4), getB ((s.drop 5).take 4), 0, (numsG s 9 2 (resetN s)).map fun x : Nat => (x : Int)⟩ else ⟨2, getB ((s.drop 1).take 4), 0, getB ((s.drop 5).take 1), []⟩
theorem rsxG_row (s : List UInt8) : PV.agg (resetK s) = (rsxG s).v := by
 unfold resetK rsxG
 split
 ·simp only [askK, Rsx.v, rstP, List.map_map]
  congr 2
 ·rfl
theorem rsxG_len (s : List UInt8) : (rsxG s).xs.length ≤ s.length := by
 unfold rsxG
 split
 ·simp only [List.length_map, numsG_len, resetN]; omega
 ·simp
def rsxOk (c : Ckx) : Bool := decide (resetMin c.bd ≤ c.bd.length) && (decide (resetP c.bd = c.bd.length) && ((rsxG c.bd).ok && (decide ((0 : Int) = c.fl) && decide ((rsxG c.bd).oct = c.bd))))
def zRsx (e : Int) : PV := .tup [.agg [.int .i64 0, .int .i64 0, .int .i64 0, .int .i64 0, .nilS], .int .i64 e]
def getRsxV (c : Ckx) : PV := if c.kd = 130 then (if rsxOk c then .tup [(rsxG c.bd).v, .int .i64 0] else zRsx 5) else zRsx 2
theorem getResetT_ok {F : SF} {L nx : Nat} (c : Ckx) (hl : c.bd.length ≤ 1000000) : Con Tryz.prog 47 [.agg c.row] F L nx nx (getRsxV c) [] [] := by
 have hcall : ∀ (F : SF) (L nx : Nat) (na : Nm) (ea : TypeId) (oa pa : Bool), na.l ≤ L → F na = some (.rows ea 1 oa pa [[.fn (.func 95) [] []]]) → Con Tryz.prog 96 [.agg c.row, .fn (.func 97) [] [.ptr na 0 0], .fn (.func 38) [] [], .fs 1 ([130].map eI)] F L nx nx (getRsxV c) [] [na] := by
  intro F L nx na ea oa pa hn hF
  obtain ⟨k, fl, s⟩ := c
  simp only [Ckx.row] at hl ⊢
  unfold getRsxV
  by_cases hk : k = 130
  ·have hk1 : (([130] : List Int).any fun x => k == x) = true := by simpa using hk
   rw [if_pos hk]
   obtain ⟨d, hdd⟩ : ∃ d, d = rsxG s := ⟨_, rfl⟩
   simp only
   rw [← hdd]
   have hrow : PV.agg (resetK s) = d.v := by rw [hdd]; exact rsxG_row s
   have hxl := rsxG_len s
   rw [← hdd] at hxl
   have hrl : (resetK s).length = 5 := by unfold resetK; split <;> rfl
   have hrn : nfl (resetK s) = true := by unfold resetK; split <;> rfl
   have hP : PutOk 38 (resetK s) (if d.ok then 130 else 0) 0 (if d.ok then d.oct else []) (if d.ok then 0 else 320) := by
    intro F L nx
    have h := putReset_ok (F := F) (L := L) (nx := nx) d.kind d.num d.last d.res d.xs (by omega)
    rw [hrow]
    have e : resetV d.kind d.num d.last d.res d.xs = d.ok := rfl
    rw [e] at h
    cases hb : d.ok with
    | true => rw [hb] at h; simp only [if_true] at h ⊢; exact h
    | false => rw [hb] at h; simp only [if_false, Bool.false_eq_true] at h ⊢; exact h
   by_cases h12 : resetMin s ≤ s.length
   ·have hO := reset2_ok (F := F) na ea oa pa hF s h12 hl
    by_cases hne : resetP s = s.length
    ·rw [hne] at hO
     cases hd : rsxOk ⟨k, fl, s⟩ with
     | true =>
      rw [if_pos rfl]
      unfold rsxOk at hd
      simp only [← hdd] at hd
      simp only [Bool.and_eq_true, decide_eq_true_eq] at hd
      obtain ⟨_, _, q1, q3, q4⟩ := hd
      rw [q1] at hP
      simp only [if_true, q4] at hP
      subst q3
      subst hk
      rw [← hrow]
      exact getReset_ok s hl 130 0 97 38 [] [.ptr na 0 0] [130] hk1 (by simp) _ hrl hrn [na] (by simpa using hn) hO hP
     | false =>
      rw [if_neg (by simp)]
      refine getReset_bad s hl k fl 97 38 [] [.ptr na 0 0] [130] hk1 (by simp) [na] (by simpa using hn) (.inr (.inr ⟨_, _, _, _, _, hrl, hrn, hO, hP, ?_⟩))
      rintro ⟨r1, r2, r3, r4⟩
      cases hb : d.ok with
      | false => rw [hb] at r1; simp at r1
      | true =>
       rw [hb] at r2 r4
       simp only [if_true] at r2 r4
       unfold rsxOk at hd
       simp only [← hdd] at hd
       simp only [hb, r3, r4, hne, h12, decide_true, Bool.and_true] at hd
       cases hd
    ·have hd : rsxOk ⟨k, fl, s⟩ = false := by
      unfold rsxOk
      simp only [decide_eq_false hne, Bool.false_and, Bool.and_false]
     rw [hd, if_neg (by simp)]
     exact getReset_bad s hl k fl 97 38 [] [.ptr na 0 0] [130] hk1 (by simp) [na] (by simpa using hn) (.inr (.inl ⟨_, _, hrl, hrn, hne, hO⟩))
   ·have hd : rsxOk ⟨k, fl, s⟩ = false := by
     unfold rsxOk
     simp only [decide_eq_false h12, Bool.false_and]
    rw [hd, if_neg (by simp)]
    exact getReset_bad s hl k fl 97 38 [] [.ptr na 0 0] [130] hk1 (by simp) [na] (by simpa using hn) (.inl (reset2_die na ea oa pa hF s (by omega) hl))
  ·rw [if_neg hk]
   exact con_rds (getReset_kind s k fl 97 38 [] [.ptr na 0 0] [130] (by simpa using hk) (by simp)) (by simp)
 have hv : ∃ x1 x2 x3 x4 x5 e, getRsxV c = .tup [.agg [.int .i64 x1, .int .i64 x2, .int .i64 x3, .int .i64 x4, x5], .int .i64 e] ∧ Tx.nf x5 = true := by
  unfold getRsxV
  split
  ·split
   ·exact ⟨_, _, _, _, _, _, rfl, rfl⟩
   ·exact ⟨_, _, _, _, _, _, rfl, rfl⟩
  ·exact ⟨_, _, _, _, _, _, rfl, rfl⟩
 obtain ⟨x1, x2, x3, x4, x5, e, hv, y5⟩ := hv
 rw [hv] at hcall ⊢
 simp only [Ckx.row] at hcall ⊢
 refine bdy Tryz.f47 ?_
 intro F3 hF1 hF2
 simp only [Tryz.f47, cx, go_sem, meths]
 repeat refine sd2 ?_
 refine CallVC.gen (args2 := [.agg [.int .i64 c.kd, .int .i64 c.fl, .str c.bd], .fn (.func 97) [] [.ptr ⟨L + 1, 96⟩ 0 0], .fn (.func 38) [] [], .fs 1 ([130].map eI)]) (by simp [WkL, Wk, eI]) (hcall _ _ _ ⟨L + 1, 96⟩ 175 true true (by simp) (by simp [wkNL, wkN, unown, SF.upd, SF.set])) ?_
 simp only [wkNL, wkN, unown, go_sem]
 repeat refine sd2 ?_
 exact PostF.same (p := True) (.inr rfl) (by simp only [resVal, resVals, resVal1, one, go_sem]) trivial (by simp [Tx.nf, nfl, y5]) (by simp [UpdAll])
end Go.Proofs.YtaacfnngodhecaaGreatDoor
end
section
namespace Go.Proofs.YtaacfnngodhecaaGreatDoor
open Go.Tx
set_option maxRecDepth 100000
set_option maxHeartbeats 4000000
def pW : Pkx := ⟨1, 2, 3, [⟨11, 0, []⟩]⟩
theorem pW_ok : pW.ok = true := by kernel_rfl
def sW : List UInt8 := encS pW
theorem sW_len : sW.length = 16 := by kernel_rfl
theorem sW_dec : decG sW = some pW := by kernel_rfl
theorem sW_bad : decG (sW.take 15 ++ [5]) = none := by kernel_rfl
def d1W : Dat := ⟨1, 2, 3, 51, true, true, false, [104, 105]⟩
def b1W : List UInt8 := dataB d1W
theorem h1W : hexS b1W = [48, 48, 48, 48, 48, 48, 48, 49, 48, 48, 48, 50, 48, 48, 48, 51, 48, 48, 48, 48, 48, 48, 51, 51, 54, 56, 54, 57] := by kernel_rfl
def b2W : List UInt8 := sackO 9 1000 [(2, 3)] [7]
theorem h2W : hexS b2W = [48, 48, 48, 48, 48, 48, 48, 57, 48, 48, 48, 48, 48, 51, 101, 56, 48, 48, 48, 49, 48, 48, 48, 49, 48, 48, 48, 50, 48, 48, 48, 51, 48, 48, 48, 48, 48, 48, 48, 55] := by kernel_rfl
def b3W : List UInt8 := fwdT 5 [(1, 7)]
theorem h3W : hexS b3W = [48, 48, 48, 48, 48, 48, 48, 53, 48, 48, 48, 49, 48, 48, 48, 55] := by kernel_rfl
def b4W : List UInt8 := resetB 2 6 0 1 []
theorem h4W : hexS b4W = [48, 50, 48, 48, 48, 48, 48, 48, 48, 54, 48, 49] := by kernel_rfl
theorem bW_len : b1W.length ≤ 100000 ∧ b2W.length ≤ 100000 ∧ b3W.length ≤ 100000 ∧ b4W.length ≤ 100000 := of_decide_eq_true (by kernel_rfl)
def fldP : PV := .tup [.agg [.int .i64 0, .int .i64 0, .str []], .int .i64 320]
def putP (k fl : Int) (b : List UInt8) : PV := .tup [.agg [.int .i64 k, .int .i64 fl, .str b], .int .i64 0]
section
variable {F : SF} {L nx : Nat}
theorem w1_ok : Con Tryz.prog 21 [.agg d1W.row] F L nx nx (putP 0 3 b1W) [] [] := by
 have h := putData_ok (F := F) (L := L) (nx := nx) d1W
 rw [show d1W.ok = true by kernel_rfl, if_pos rfl] at h
 exact h
theorem w2_ok : Con Tryz.prog 26 [sackP 9 1000 [(2, 3)] [7]] F L nx nx (putP 3 0 b2W) [] [] := by
 have h := putSack_ok (F := F) (L := L) (nx := nx) 9 1000 [(2, 3)] [7] (by simp) (by simp)
 rw [show sackV 9 1000 [(2, 3)] [7] = true by kernel_rfl, if_pos rfl] at h
 exact h
theorem w3_ok : Con Tryz.prog 26 [sackP 0 0 [(2, 3), (4, 5)] []] F L nx nx fldP [] [] := by
 have h := putSack_ok (F := F) (L := L) (nx := nx) 0 0 [(2, 3), (4, 5)] [] (by simp) (by simp)
 rw [show sackV 0 0 [(2, 3), (4, 5)] [] = false by kernel_rfl, if_neg (by simp)] at h
 exact h
theorem w4_ok : Con Tryz.prog 26 [sackP 0 0 [(1, 1)] []] F L nx nx fldP [] [] := by
 have h := putSack_ok (F := F) (L := L) (nx := nx) 0 0 [(1, 1)] [] (by simp) (by simp)
 rw [show sackV 0 0 [(1, 1)] [] = false by kernel_rfl, if_neg (by simp)] at h
 exact h
theorem w5_ok : Con Tryz.prog 30 [.agg (Ini.mk 0 0 1 1 0 []).row] F L nx nx fldP [] [] := by
 have h := putInit_ok (F := F) (L := L) (nx := nx) ⟨0, 0, 1, 1, 0, []⟩
 rw [show (Ini.mk 0 0 1 1 0 []).ok = false by kernel_rfl, if_neg (by simp)] at h
 exact h
theorem w6_ok : Con Tryz.prog 34 [fwdP 5 [(1, 7)]] F L nx nx (putP 192 0 b3W) [] [] := by
 have h := putForward_ok (F := F) (L := L) (nx := nx) 5 [(1, 7)] (by simp)
 rw [show fwdV 5 [(1, 7)] = true by kernel_rfl, if_pos rfl] at h
 exact h
theorem w7_ok : Con Tryz.prog 38 [rstP 2 6 0 1 (.fs 1 (([] : List Int).map eI))] F L nx nx (putP 130 0 b4W) [] [] := by
 have h := putReset_ok (F := F) (L := L) (nx := nx) 2 6 0 1 [] (by simp)
 rw [show resetV 2 6 0 1 [] = true by kernel_rfl, if_pos rfl] at h
 exact h
theorem w8_ok : Con Tryz.prog 43 [.agg (Ckx.mk 3 0 []).row] F L nx nx (.tup [.agg zDat.row, .int .i64 2]) [] [] := by
 have h := getDataT_ok (F := F) (L := L) (nx := nx) ⟨3, 0, []⟩ (by simp)
 rw [show getDatV ⟨3, 0, []⟩ = .tup [.agg zDat.row, .int .i64 2] from if_neg (by simp)] at h
 exact h
theorem w9_ok : Con Tryz.prog 45 [.agg (Ckx.mk 3 0 []).row] F L nx nx (zSck 5) [] [] := by
 have h := getSackT_ok (F := F) (L := L) (nx := nx) ⟨3, 0, []⟩ (by simp)
 rw [show getSckV ⟨3, 0, []⟩ = zSck 5 by unfold getSckV; rw [if_pos rfl, if_neg (by rw [show sckOk ⟨3, 0, []⟩ = false by kernel_rfl]; simp)]] at h
 exact h
theorem w10_ok : Con Tryz.prog 14 [.agg pW.row] F L nx nx (.tup [.str sW, .int .i64 0]) [] [] := encode_ok pW pW_ok
theorem w11_ok : Con Tryz.prog 17 [.str sW] F L nx nx (.tup [.agg pW.row, .int .i64 0]) [] [] := decode_ok sW pW (by rw [sW_len]; omega) (by rw [sW_len]; omega) sW_dec
end
theorem works32_ok {F : SF} {L nx : Nat} : Con Tryz.prog 10 [] F L nx nx (.bool true) [] [] := by
 have hl := sW_len
 have hl15 : (sW.take 15).length = 15 := by rw [List.length_take, hl]; rfl
 refine bdy Tryz.f10 ?_
 intro F3 hF1 hF2
 simp only [Tryz.f10, cx, go_sem, meths]
 have hn : (((16 : Nat) : Int) != 16) = false := rfl
 have hn2 : ((2 : Int) == 2) = true := rfl
 have hn5 : ((5 : Int) == 5) = true := rfl
 refine CallVC.gen (args2 := [.agg pW.row]) (by simp [WkL, Wk, Pkx.row, Ckx.row, pW]) w10_ok ?_
 simp only [hn, wkNL, wkN, unown, Pkx.row, Ckx.row, pW, List.map_cons, hl, go_sem]
 refine CallVC.same w11_ok ?_
 simp only [Pkx.row, Ckx.row, pW, List.map_cons, go_sem]
 refine CallVC.same w8_ok ?_
 simp only [zDat, Dat.row, go_sem]
 refine CallVC.same w9_ok ?_
 simp only [zSck, go_sem]
 refine CallVC.same (is_ok _ _ _) ?_
 simp only [go_sem]
 refine CallVC.same w1_ok ?_
 simp only [putP, go_sem]
 refine CallVC.same (is1_ok _ _ _ (by simp) (by simp) (by simp) true true true true true true 3 3 9 0 3 b1W _ bW_len.1 h1W (by simp [Tx.look]) (by simp [Tx.look]) (by simp [Tx.look])) ?_
 simp only [go_sem]
 refine CallVC.same (is_ok _ _ _) ?_
 simp only [go_sem]
 refine CallVC.gen (args2 := [sackP 9 1000 [(2, 3)] [7]]) (by simp [WkL, Wk, sackP, kE, eI]) w2_ok ?_
 simp only [putP, sackP, kE, eI, wkNL, wkN, unown, List.map_cons, go_sem]
 refine CallVC.same (is1_ok _ _ _ (by simp) (by simp) (by simp) true true true true true true 3 3 9 3 0 b2W _ bW_len.2.1 h2W (by simp [Tx.look]) (by simp [Tx.look]) (by simp [Tx.look])) ?_
 simp only [go_sem]
 refine CallVC.gen (args2 := [sackP 0 0 [(2, 3), (4, 5)] []]) (by simp [WkL, Wk, sackP, kE]) w3_ok ?_
 simp only [fldP, sackP, kE, wkNL, wkN, unown, List.map_cons, go_sem]
 refine CallVC.same lawFails_ok ?_
 simp only [go_sem]
 refine CallVC.gen (args2 := [sackP 0 0 [(1, 1)] []]) (by simp [WkL, Wk, sackP, kE]) w4_ok ?_
 simp only [fldP, sackP, kE, wkNL, wkN, unown, List.map_cons, go_sem]
 refine CallVC.same lawFails_ok ?_
 simp only [go_sem]
 refine CallVC.same w5_ok ?_
 simp only [fldP, go_sem]
 refine CallVC.same lawFails_ok ?_
 simp only [go_sem]
 refine CallVC.same (is_ok _ _ _) ?_
 simp only [go_sem]
 refine CallVC.gen (args2 := [fwdP 5 [(1, 7)]]) (by simp [WkL, Wk, fwdP, kE]) w6_ok ?_
 simp only [putP, fwdP, kE, wkNL, wkN, unown, List.map_cons, go_sem]
 refine CallVC.same (is1_ok _ _ _ (by simp) (by simp) (by simp) true true true true true true 3 3 9 192 0 b3W _ bW_len.2.2.1 h3W (by simp [Tx.look]) (by simp [Tx.look]) (by simp [Tx.look])) ?_
 simp only [go_sem]
 refine CallVC.same (is_ok _ _ _) ?_
 simp only [go_sem]
 refine CallVC.gen (args2 := [rstP 2 6 0 1 (.fs 1 (([] : List Int).map eI))]) (by simp [WkL, Wk, rstP]) w7_ok ?_
 simp only [putP, rstP, wkNL, wkN, unown, List.map_nil, go_sem]
 refine CallVC.same (is1_ok _ _ _ (by simp) (by simp) (by simp) true true true true true true 3 3 9 130 0 b4W _ bW_len.2.2.2 h4W (by simp [Tx.look]) (by simp [Tx.look]) (by simp [Tx.look])) ?_
 simp only [go_sem]
 refine CallVC.gen (args2 := [.agg pW.row, .agg pW.row]) (by simp [WkL, Wk, Pkx.row, Ckx.row, pW]) (rSameP_ok pW pW (by simp [pW]) (by simp [pW]) true (by simp)) ?_
 simp only [wkNL, wkN, unown, Pkx.row, Ckx.row, pW, List.map_cons, List.map_nil, hl, hl15, go_sem]
 repeat refine sd2 ?_
 refine CallVC.same (refuses_ok (sW.take 15 ++ [5]) 5 (fun F L nx => decodeNo_ok _ (by rw [List.length_append, hl15]; simp) (by rw [List.length_append, hl15]; simp) sW_bad)) ?_
 simp only [hl, go_sem]
 repeat refine sd2 ?_
 refine CallVC.same (refuses_ok (sW.take 15) 7 (fun F L nx => decodeShort_ok _ (by rw [hl15]; omega))) ?_
 simp only [hn2, hn5, go_sem]
 repeat refine sd2 ?_
 exact .bool (.inr rfl) rfl rfl (by simp [UpdAll])
end Go.Proofs.YtaacfnngodhecaaGreatDoor
end
section
namespace Go.Proofs.YtaacfnngodhecaaGreatDoor
open Go.Tx
set_option maxRecDepth 100000
set_option maxHeartbeats 4000000
theorem putB_succ (i v : Nat) : putB (i + 1) v = byN (v / 256 ^ i) :: putB i v := by
 simp only [putB, byN, List.range_succ_eq_map, List.map_cons, List.map_map]
 congr 1
 apply List.map_congr_left
 intro j hj
 have := List.mem_range.1 hj
 simp only [Function.comp]
 rw [show i + 1 - 1 - j.succ = i - 1 - j by omega]
theorem byN_nat (v : Nat) : (byN v).toNat = v % 256 := by simp [byN]
theorem getB_fold : ∀ (l : List UInt8) (v : Nat), l.foldl (fun v c => v * 256 + c.toNat) v = v * 256 ^ l.length + getB l
 | [], v => by simp [getB]
 | a :: l, v => by
  have e1 := getB_fold l (v * 256 + a.toNat)
  have e2 := getB_fold l (0 * 256 + a.toNat)
  simp only [List.foldl_cons, getB] at e1 e2 ⊢
  rw [e1, e2, List.length_cons, Nat.pow_succ]
  have : (v * 256 + a.toNat) * 256 ^ l.length = v * (256 ^ l.length * 256) + (0 * 256 + a.toNat) * 256 ^ l.length := by
   rw [Nat.add_mul, Nat.mul_assoc, Nat.mul_comm 256 (256 ^ l.length)]; simp
  omega
theorem getB_cons (a : UInt8) (l : List UInt8) : getB (a :: l) = a.toNat * 256 ^ l.length + getB l := by
 have := getB_fold l (0 * 256 + a.toNat)
 simpa [getB] using this
theorem getB_put (n v : Nat) : getB (putB n v) = v % 256 ^ n := by
 induction n with
 | zero => simp [putB, getB, Nat.mod_one]
 | succ n ih =>
  rw [putB_succ, getB_cons, ih, putB_len, byN_nat, Nat.mod_pow_succ, Nat.mul_comm]
  omega
theorem getB_putB {n v : Nat} (h : v < 256 ^ n) : getB (putB n v) = v := by rw [getB_put, Nat.mod_eq_of_lt h]
theorem drop_at {A R : List UInt8} {p : Nat} (h : p = A.length) : (A ++ R).drop p = R := by subst h; simp
theorem take_at {A R : List UInt8} {n : Nat} (h : n = A.length) : (A ++ R).take n = A := by subst h; simp
theorem num_at {A R : List UInt8} {p n v : Nat} (hp : p = A.length) (hv : v < 256 ^ n) : getB (((A ++ (putB n v ++ R)).drop p).take n) = v := by
 rw [drop_at hp, take_at (putB_len n v).symm, getB_putB hv]
theorem numsG_cons (s : List UInt8) (p k n : Nat) : numsG s p k (n + 1) = getB ((s.drop p).take k) :: numsG s (p + k) k n := by
 simp only [numsG, List.range_succ_eq_map, List.map_cons, List.map_map, Nat.mul_zero, Nat.add_zero]
 congr 1
 apply List.map_congr_left
 intro j _
 simp only [Function.comp]
 rw [show p + k * (j + 1) = p + k + k * j by rw [Nat.mul_add]; omega]
theorem pairsG_cons (s : List UInt8) (p n : Nat) : pairsG s p (n + 1) = (getB ((s.drop p).take 2), getB ((s.drop (p + 2)).take 2)) :: pairsG s (p + 4) n := by
 simp only [pairsG, List.range_succ_eq_map, List.map_cons, List.map_map, Nat.mul_zero, Nat.add_zero]
 congr 1
 apply List.map_congr_left
 intro j _
 simp only [Function.comp]
 rw [show p + 4 * (j + 1) = p + 4 + 4 * j by omega]
theorem nums_at {k : Nat} : ∀ (xs : List Nat) (A R : List UInt8) (p : Nat), p = A.length → (∀ x ∈ xs, x < 256 ^ k) → numsG (A ++ (xs.flatMap (putB k) ++ R)) p k xs.length = xs
 | [], _, _, _, _, _ => rfl
 | x :: xs, A, R, p, hp, h => by
  rw [List.length_cons, numsG_cons, List.flatMap_cons, List.append_assoc, num_at hp (h x (by simp))]
  have ih := nums_at xs (A ++ putB k x) R (p + k) (by simp [putB_len, hp]) (fun y hy => h y (by simp [hy]))
  rw [List.append_assoc] at ih
  rw [ih]
theorem pairs_at : ∀ (xs : List (Nat × Nat)) (A R : List UInt8) (p : Nat), p = A.length → (∀ x ∈ xs, x.1 < 65536 ∧ x.2 < 65536) → pairsG (A ++ ((xs.flatMap fun k => putB 2 k.1 ++ putB 2 k.2) ++ R)) p xs.length = xs
 | [], _, _, _, _, _ => rfl
 | x :: xs, A, R, p, hp, h => by
  have hx := h x (by simp)
  rw [List.length_cons, pairsG_cons, List.flatMap_cons]
  have e1 : A ++ (putB 2 x.1 ++ putB 2 x.2 ++ (xs.flatMap fun k => putB 2 k.1 ++ putB 2 k.2) ++ R) = A ++ (putB 2 x.1 ++ (putB 2 x.2 ++ ((xs.flatMap fun k => putB 2 k.1 ++ putB 2 k.2) ++ R))) := by simp
  have e2 : A ++ (putB 2 x.1 ++ (putB 2 x.2 ++ ((xs.flatMap fun k => putB 2 k.1 ++ putB 2 k.2) ++ R))) = (A ++ putB 2 x.1) ++ (putB 2 x.2 ++ ((xs.flatMap fun k => putB 2 k.1 ++ putB 2 k.2) ++ R)) := by simp
  have e3 : A ++ (putB 2 x.1 ++ (putB 2 x.2 ++ ((xs.flatMap fun k => putB 2 k.1 ++ putB 2 k.2) ++ R))) = (A ++ (putB 2 x.1 ++ putB 2 x.2)) ++ ((xs.flatMap fun k => putB 2 k.1 ++ putB 2 k.2) ++ R) := by simp
  rw [e1, num_at hp (by omega)]
  have f2 : getB (((A ++ (putB 2 x.1 ++ (putB 2 x.2 ++ ((xs.flatMap fun k => putB 2 k.1 ++ putB 2 k.2) ++ R)))).drop (p + 2)).take 2) = x.2 := by
   rw [e2]; exact num_at (by simp [putB_len, hp]) (by omega)
  rw [f2]
  have ih := pairs_at xs (A ++ (putB 2 x.1 ++ putB 2 x.2)) R (p + 4) (by simp [putB_len, hp]) (fun y hy => h y (by simp [hy]))
  rw [e3, ih]
theorem flD_bits (la fi lo : Bool) : decide (Sx.ibits .and .i64 (flD la fi lo 3) 2 > 0) = fi ∧ decide (Sx.ibits .and .i64 (flD la fi lo 3) 1 > 0) = la ∧ decide (Sx.ibits .and .i64 (flD la fi lo 3) 4 > 0) = lo := by
 cases la <;> cases fi <;> cases lo <;> exact ⟨by decide, by decide, by decide⟩
theorem dataBack {d : Dat} (h : d.ok = true) : getDatV ⟨0, flD d.la d.fi d.lo 3, dataB d⟩ = .tup [.agg d.row, .int .i64 0] := by
 have h0 := h
 unfold Dat.ok at h
 simp only [Bool.and_eq_true] at h
 obtain ⟨⟨h1, h2⟩, ⟨h3, h4⟩, _⟩ := h
 obtain ⟨a1, a2⟩ := serB_nat h1
 obtain ⟨b1, b2⟩ := serB_nat h2
 obtain ⟨c1, c2⟩ := serB_nat h3
 obtain ⟨d1, d2⟩ := serB_nat h4
 have hd : datG ⟨0, flD d.la d.fi d.lo 3, dataB d⟩ = d := by
  obtain ⟨f1, f2, f3⟩ := flD_bits d.la d.fi d.lo
  simp only [datG, f1, f2, f3]
  have e0 : dataB d = [] ++ (putB 4 d.tsn.toNat ++ (putB 2 d.st.toNat ++ (putB 2 d.sq.toNat ++ (putB 4 d.pr.toNat ++ d.pl)))) := by simp [dataB]
  have e4 : dataB d = putB 4 d.tsn.toNat ++ (putB 2 d.st.toNat ++ (putB 2 d.sq.toNat ++ (putB 4 d.pr.toNat ++ d.pl))) := by simp [dataB]
  have e6 : dataB d = (putB 4 d.tsn.toNat ++ putB 2 d.st.toNat) ++ (putB 2 d.sq.toNat ++ (putB 4 d.pr.toNat ++ d.pl)) := by simp [dataB]
  have e8 : dataB d = (putB 4 d.tsn.toNat ++ putB 2 d.st.toNat ++ putB 2 d.sq.toNat) ++ (putB 4 d.pr.toNat ++ d.pl) := by simp [dataB]
  have e12 : dataB d = (putB 4 d.tsn.toNat ++ putB 2 d.st.toNat ++ putB 2 d.sq.toNat ++ putB 4 d.pr.toNat) ++ d.pl := by simp [dataB]
  have g0 : getB ((dataB d).take 4) = d.tsn.toNat := by
   have := num_at (A := []) (n := 4) (R := putB 2 d.st.toNat ++ (putB 2 d.sq.toNat ++ (putB 4 d.pr.toNat ++ d.pl))) (p := 0) rfl a2
   rw [← e0] at this; simpa using this
  have g4 : getB (((dataB d).drop 4).take 2) = d.st.toNat := by rw [e4]; exact num_at (by simp [putB_len]) c2
  have g6 : getB (((dataB d).drop 6).take 2) = d.sq.toNat := by rw [e6]; exact num_at (by simp [putB_len]) d2
  have g8 : getB (((dataB d).drop 8).take 4) = d.pr.toNat := by rw [e8]; exact num_at (by simp [putB_len]) b2
  have g12 : (dataB d).drop 12 = d.pl := by rw [e12]; exact drop_at (by simp [putB_len])
  rw [g0, g4, g6, g8, g12, ← a1, ← b1, ← c1, ← d1]
 have hl : 12 ≤ (dataB d).length := by simp [dataB, putB_len]; omega
 have hok : datOk ⟨0, flD d.la d.fi d.lo 3, dataB d⟩ = true := by
  unfold datOk
  rw [hd]
  simp [hl, h0]
 unfold getDatV
 rw [if_pos rfl, if_pos hok, hd]
theorem iniBack {d : Ini} (h : d.ok = true) : getIniV ⟨iniK d.ck, 0, d.oct⟩ = .tup [.agg d.row, .int .i64 0] := by
 have h0 := h
 unfold Ini.ok at h
 simp only [Bool.and_eq_true] at h
 obtain ⟨⟨h1, h2, h3⟩, ⟨h4, h5⟩, _⟩ := h
 obtain ⟨a1, a2⟩ := serB_nat h1
 obtain ⟨b1, b2⟩ := serB_nat h2
 obtain ⟨c1, c2⟩ := serB_nat h3
 obtain ⟨d1, d2⟩ := serB_nat h4
 obtain ⟨x1, x2⟩ := serB_nat h5
 have e0 : d.oct = [] ++ (putB 4 d.tag.toNat ++ (putB 4 d.win.toNat ++ (putB 2 d.out.toNat ++ (putB 2 d.inn.toNat ++ (putB 4 d.tsn.toNat ++ d.ck))))) := by simp [Ini.oct, iniB]
 have e4 : d.oct = putB 4 d.tag.toNat ++ (putB 4 d.win.toNat ++ (putB 2 d.out.toNat ++ (putB 2 d.inn.toNat ++ (putB 4 d.tsn.toNat ++ d.ck)))) := by simp [Ini.oct, iniB]
 have e8 : d.oct = (putB 4 d.tag.toNat ++ putB 4 d.win.toNat) ++ (putB 2 d.out.toNat ++ (putB 2 d.inn.toNat ++ (putB 4 d.tsn.toNat ++ d.ck))) := by simp [Ini.oct, iniB]
 have e10 : d.oct = (putB 4 d.tag.toNat ++ putB 4 d.win.toNat ++ putB 2 d.out.toNat) ++ (putB 2 d.inn.toNat ++ (putB 4 d.tsn.toNat ++ d.ck)) := by simp [Ini.oct, iniB]
 have e12 : d.oct = (putB 4 d.tag.toNat ++ putB 4 d.win.toNat ++ putB 2 d.out.toNat ++ putB 2 d.inn.toNat) ++ (putB 4 d.tsn.toNat ++ d.ck) := by simp [Ini.oct, iniB]
 have e16 : d.oct = (putB 4 d.tag.toNat ++ putB 4 d.win.toNat ++ putB 2 d.out.toNat ++ putB 2 d.inn.toNat ++ putB 4 d.tsn.toNat) ++ d.ck := by simp [Ini.oct, iniB]
 have hd : iniG ⟨iniK d.ck, 0, d.oct⟩ = d := by
  simp only [iniG]
  have g0 : getB (d.oct.take 4) = d.tag.toNat := by
   have := num_at (A := []) (n := 4) (R := putB 4 d.win.toNat ++ (putB 2 d.out.toNat ++ (putB 2 d.inn.toNat ++ (putB 4 d.tsn.toNat ++ d.ck)))) (p := 0) rfl a2
   rw [← e0] at this; simpa using this
  have g4 : getB ((d.oct.drop 4).take 4) = d.win.toNat := by rw [e4]; exact num_at (by simp [putB_len]) b2
  have g8 : getB ((d.oct.drop 8).take 2) = d.out.toNat := by rw [e8]; exact num_at (by simp [putB_len]) d2
  have g10 : getB ((d.oct.drop 10).take 2) = d.inn.toNat := by rw [e10]; exact num_at (by simp [putB_len]) x2
  have g12 : getB ((d.oct.drop 12).take 4) = d.tsn.toNat := by rw [e12]; exact num_at (by simp [putB_len]) c2
  have g16 : d.oct.drop 16 = d.ck := by rw [e16]; exact drop_at (by simp [putB_len])
  rw [g0, g4, g8, g10, g12, g16, ← a1, ← b1, ← c1, ← d1, ← x1]
 have hl : 16 ≤ d.oct.length := by rw [e16]; simp [putB_len]; omega
 have hok : iniOk ⟨iniK d.ck, 0, d.oct⟩ = true := by
  unfold iniOk
  rw [hd]
  simp [hl, h0]
 unfold getIniV
 rw [if_pos (by unfold iniK; split <;> simp), if_pos hok, hd]
theorem mapN (xs : List Int) (h : ∀ x ∈ xs, 0 ≤ x) : (xs.map Int.toNat).map (fun x : Nat => (x : Int)) = xs := by
 rw [List.map_map]
 conv => rhs; rw [← List.map_id xs]
 apply List.map_congr_left
 intro x hx
 have := h x hx
 simp only [Function.comp, id]; omega
theorem mapK (xs : List (Int × Int)) (h : ∀ x ∈ xs, 0 ≤ x.1 ∧ 0 ≤ x.2) : (xs.map fun k => (k.1.toNat, k.2.toNat)).map kN = xs := by
 rw [List.map_map]
 conv => rhs; rw [← List.map_id xs]
 apply List.map_congr_left
 intro x hx
 have := h x hx
 simp only [Function.comp, id, kN]
 exact Prod.ext (by simp only []; omega) (by simp only []; omega)
theorem getD_mem {α : Type} {xs : List α} {x a : α} (h : x ∈ xs) : ∃ i, i < xs.length ∧ xs.getD i a = x := by
 obtain ⟨i, hi, e⟩ := List.getElem_of_mem h
 exact ⟨i, hi, by simp [List.getD_eq_getElem?_getD, hi, e]⟩
theorem fwdB {cum : Int} {sk : List (Int × Int)} (h : fwdV cum sk = true) : (∀ x ∈ sk, 0 ≤ x.1 ∧ x.1 < 65536 ∧ 0 ≤ x.2 ∧ x.2 < 65536) ∧ 0 ≤ cum ∧ cum < 2 ^ 32 ∧ sk.length ≤ 30 := by
 unfold fwdV at h
 simp only [Bool.and_eq_true, List.all_eq_true, List.mem_range, decide_eq_true_eq] at h
 obtain ⟨h1, h2, h3⟩ := h
 have hc := serB_nat h2
 have hcc : cum.toNat < 4294967296 := hc.2
 refine ⟨fun x hx => ?_, by omega, by omega, h3⟩
 obtain ⟨i, hi, e⟩ := getD_mem (a := ((0, 0) : Int × Int)) hx
 have h4 := h1 i hi
 unfold okSk at h4
 rw [e] at h4
 simp only [Bool.and_eq_true] at h4
 obtain ⟨⟨q1, q2⟩, _⟩ := h4
 have p1 := serB_nat q1
 have p2 := serB_nat q2
 have p3 : x.1.toNat < 65536 := p1.2
 have p4 : x.2.toNat < 65536 := p2.2
 omega
theorem fwdBack {cum : Int} {sk : List (Int × Int)} (h : fwdV cum sk = true) : getFwxV ⟨192, 0, fwdT cum.toNat (sk.map fun k => (k.1.toNat, k.2.toNat))⟩ = .tup [fwdP cum sk, .int .i64 0] := by
 obtain ⟨b1, b2, b3, b4⟩ := fwdB h
 obtain ⟨ks, hks⟩ : ∃ ks, ks = sk.map fun k => (k.1.toNat, k.2.toNat) := ⟨_, rfl⟩
 have hkl : ks.length = sk.length := by rw [hks]; simp
 have hkb : ∀ x ∈ ks, x.1 < 65536 ∧ x.2 < 65536 := by
  intro x hx
  rw [hks] at hx
  obtain ⟨y, hy, rfl⟩ := List.mem_map.1 hx
  have := b1 y hy
  constructor
  ·show y.1.toNat < 65536; omega
  ·show y.2.toNat < 65536; omega
 have hsk : ks.map kN = sk := by rw [hks]; exact mapK sk fun x hx => ⟨(b1 x hx).1, (b1 x hx).2.2.1⟩
 rw [← hks]
 obtain ⟨s, hs⟩ : ∃ s, s = fwdT cum.toNat ks := ⟨_, rfl⟩
 have hl : s.length = 4 + 4 * ks.length := by rw [hs]; unfold fwdT; rw [List.length_append, putB_len, skT_len]
 have hc : fwdC s = ks.length := by unfold fwdC; omega
 have g0 : getB (s.take 4) = cum.toNat := by
  have := num_at (A := []) (n := 4) (v := cum.toNat) (R := ks.flatMap fun k => putB 2 k.1 ++ putB 2 k.2) (p := 0) rfl (by show cum.toNat < 4294967296; omega)
  rw [List.nil_append] at this
  rw [hs]; unfold fwdT; simpa using this
 have g4 : pairsG s 4 (fwdC s) = ks := by
  have := pairs_at ks (putB 4 cum.toNat) [] 4 (by simp [putB_len]) hkb
  rw [hc, hs]; unfold fwdT; simpa using this
 have hd : fwxG s = ⟨cum, sk⟩ := by
  unfold fwxG
  rw [g0, g4, hsk]
  congr 1
  omega
 have hok : fwxOk ⟨192, 0, s⟩ = true := by
  unfold fwxOk
  simp only [hd, Fwx.ok, Fwx.oct, h, ← hks, ← hs, Bool.true_and, decide_true, Bool.and_eq_true, decide_eq_true_eq]
  exact ⟨by omega, by rw [hc]; omega, trivial⟩
 rw [← hs]
 unfold getFwxV
 rw [if_pos rfl, if_pos hok, hd]
 rfl
theorem sackB {cum win : Int} {gs : List (Int × Int)} {ds : List Int} (h : sackV cum win gs ds = true) : (∀ x ∈ gs, 0 ≤ x.1 ∧ x.1 < 65536 ∧ 0 ≤ x.2 ∧ x.2 < 65536) ∧ (0 ≤ cum ∧ cum < 2 ^ 32) ∧ (0 ≤ win ∧ win < 2 ^ 32) ∧ gs.length ≤ 30 ∧ ds.length ≤ 20 ∧ ∀ x ∈ ds, 0 ≤ x ∧ x < 2 ^ 32 := by
 unfold sackV at h
 simp only [Bool.and_eq_true, List.all_eq_true, List.mem_range, decide_eq_true_eq] at h
 obtain ⟨h1, ⟨h2, h3⟩, h4, h5, h6⟩ := h
 have hc := serB_nat h2
 have hcc : cum.toNat < 4294967296 := hc.2
 have hw := serB_nat h3
 have hww : win.toNat < 4294967296 := hw.2
 have key : ∀ i, i < gs.length → 0 ≤ befG gs i ∧ 0 ≤ (gs.getD i (0, 0)).1 ∧ (gs.getD i (0, 0)).1 ≤ (gs.getD i (0, 0)).2 ∧ (gs.getD i (0, 0)).2 ≤ 65535 := by
  intro i
  induction i with
  | zero =>
   intro hi
   have h7 := h1 0 hi
   unfold okGp at h7
   simp only [Bool.and_eq_true, decide_eq_true_eq] at h7
   have hb : befG gs 0 = 0 := by simp [befG]
   rw [hb] at h7 ⊢
   omega
  | succ i ih =>
   intro hi
   have h8 := ih (by omega)
   have h7 := h1 (i + 1) hi
   unfold okGp at h7
   simp only [Bool.and_eq_true, decide_eq_true_eq] at h7
   have hb : befG gs (i + 1) = (gs.getD i (0, 0)).2 := by simp [befG]
   rw [hb] at h7 ⊢
   omega
 refine ⟨fun x hx => ?_, by omega, by omega, h4, h5, fun x hx => ?_⟩
 ·obtain ⟨i, hi, e⟩ := getD_mem (a := ((0, 0) : Int × Int)) hx
  have := key i hi
  rw [e] at this
  omega
 ·have h7 := serB_nat (h6 x hx)
  have h8 : x.toNat < 4294967296 := h7.2
  omega
theorem sackBack {cum win : Int} {gs : List (Int × Int)} {ds : List Int} (h : sackV cum win gs ds = true) : getSckV ⟨3, 0, sackO cum win gs ds⟩ = .tup [sackP cum win gs ds, .int .i64 0] := by
 obtain ⟨b1, b2, b3, b4, b5, b6⟩ := sackB h
 obtain ⟨ks, hks⟩ : ∃ ks, ks = gs.map fun k => (k.1.toNat, k.2.toNat) := ⟨_, rfl⟩
 obtain ⟨es, hes⟩ : ∃ es, es = ds.map Int.toNat := ⟨_, rfl⟩
 have hkl : ks.length = gs.length := by rw [hks]; simp
 have hel : es.length = ds.length := by rw [hes]; simp
 have hkb : ∀ x ∈ ks, x.1 < 65536 ∧ x.2 < 65536 := by
  intro x hx
  rw [hks] at hx
  obtain ⟨y, hy, rfl⟩ := List.mem_map.1 hx
  have := b1 y hy
  constructor
  ·show y.1.toNat < 65536; omega
  ·show y.2.toNat < 65536; omega
 have heb : ∀ x ∈ es, x < 256 ^ 4 := by
  intro x hx
  rw [hes] at hx
  obtain ⟨y, hy, rfl⟩ := List.mem_map.1 hx
  have := b6 y hy
  show y.toNat < 4294967296; omega
 have hsk : ks.map kN = gs := by rw [hks]; exact mapK gs fun x hx => ⟨(b1 x hx).1, (b1 x hx).2.2.1⟩
 have hse : es.map (fun x : Nat => (x : Int)) = ds := by rw [hes]; exact mapN ds fun x hx => (b6 x hx).1
 obtain ⟨s, hs⟩ : ∃ s, s = sackO cum win gs ds := ⟨_, rfl⟩
 have hs2 : s = sackT cum.toNat win.toNat ks es := by rw [hs, hks, hes]; rfl
 obtain ⟨G, hG⟩ : ∃ G, G = ks.flatMap fun k => putB 2 k.1 ++ putB 2 k.2 := ⟨_, rfl⟩
 obtain ⟨D, hD⟩ : ∃ D, D = es.flatMap (putB 4) := ⟨_, rfl⟩
 have hGl : G.length = 4 * ks.length := by rw [hG]; exact skT_len ks
 have hDl : D.length = 4 * es.length := by
  rw [hD]
  clear heb hel hse hs2 hD hes
  induction es with
  | nil => rfl
  | cons a l ih => rw [List.flatMap_cons, List.length_append, ih, putB_len, List.length_cons]; omega
 have e0 : s = [] ++ (putB 4 cum.toNat ++ (putB 4 win.toNat ++ (putB 2 ks.length ++ (putB 2 es.length ++ (G ++ D))))) := by rw [hs2, hG, hD]; simp [sackT]
 have e4 : s = putB 4 cum.toNat ++ (putB 4 win.toNat ++ (putB 2 ks.length ++ (putB 2 es.length ++ (G ++ D)))) := by rw [hs2, hG, hD]; simp [sackT]
 have e8 : s = (putB 4 cum.toNat ++ putB 4 win.toNat) ++ (putB 2 ks.length ++ (putB 2 es.length ++ (G ++ D))) := by rw [hs2, hG, hD]; simp [sackT]
 have e10 : s = (putB 4 cum.toNat ++ putB 4 win.toNat ++ putB 2 ks.length) ++ (putB 2 es.length ++ (G ++ D)) := by rw [hs2, hG, hD]; simp [sackT]
 have e12 : s = (putB 4 cum.toNat ++ putB 4 win.toNat ++ putB 2 ks.length ++ putB 2 es.length) ++ (G ++ D) := by rw [hs2, hG, hD]; simp [sackT]
 have e16 : s = (putB 4 cum.toNat ++ putB 4 win.toNat ++ putB 2 ks.length ++ putB 2 es.length ++ G) ++ (D ++ []) := by rw [hs2, hG, hD]; simp [sackT]
 have hl : s.length = 12 + 4 * ks.length + 4 * es.length := by rw [e12]; simp [putB_len, hGl, hDl]; omega
 have hc32 : cum.toNat < 256 ^ 4 := by show cum.toNat < 4294967296; omega
 have hw32 : win.toNat < 256 ^ 4 := by show win.toNat < 4294967296; omega
 have g0 : getB (s.take 4) = cum.toNat := by
  have := num_at (A := []) (n := 4) (R := putB 4 win.toNat ++ (putB 2 ks.length ++ (putB 2 es.length ++ (G ++ D)))) (p := 0) rfl hc32
  rw [← e0] at this; simpa using this
 have g4 : getB ((s.drop 4).take 4) = win.toNat := by rw [e4]; exact num_at (by simp [putB_len]) hw32
 have g8 : sackG s = ks.length := by unfold sackG; rw [e8]; exact num_at (by simp [putB_len]) (by show _ < 65536; omega)
 have g10 : sackD s = es.length := by unfold sackD; rw [e10]; exact num_at (by simp [putB_len]) (by show _ < 65536; omega)
 have g12 : pairsG s 12 (sackG s) = ks := by
  rw [g8, e12, hG]; exact pairs_at ks _ D 12 (by simp [putB_len]) hkb
 have g16 : numsG s (12 + 4 * sackG s) 4 (sackD s) = es := by
  rw [g8, g10, e16, hD]; exact nums_at es _ [] _ (by simp [putB_len, hGl]; omega) heb
 have hd : sckG ⟨3, 0, s⟩ = ⟨cum, win, gs, ds⟩ := by
  simp only [sckG, g0, g4, g12, g16, hsk, hse]
  congr 1 <;> omega
 have hok : sckOk ⟨3, 0, s⟩ = true := by
  unfold sckOk
  simp only [hd, Skx.ok, Skx.oct, h, ← hs, decide_true, Bool.and_true, decide_eq_true_eq]
  unfold sckN
  rw [g8, g10]; omega
 rw [← hs]
 unfold getSckV
 rw [if_pos rfl, if_pos hok, hd]
 rfl
theorem rstB {k n la r : Int} {xs : List Int} (h : resetV k n la r xs = true) : (0 ≤ n ∧ n < 2 ^ 32) ∧ (0 ≤ la ∧ la < 2 ^ 32) ∧ (0 ≤ r ∧ r < 256) ∧ (∀ x ∈ xs, 0 ≤ x ∧ x < 65536) ∧ ((k = 2 ∧ la = 0 ∧ xs = []) ∨ (k = 1 ∧ r = 0 ∧ 1 ≤ xs.length ∧ xs.length ≤ 30)) := by
 unfold resetV at h
 simp only [Bool.and_eq_true] at h
 obtain ⟨⟨⟨⟨h1, h2⟩, h3⟩, h4⟩, h5⟩ := h
 have p2 := serB_nat h2
 have q2 : n.toNat < 4294967296 := p2.2
 have p3 := serB_nat h3
 have q3 : la.toNat < 4294967296 := p3.2
 have p4 := serB_nat h4
 have q4 : r.toNat < 256 := p4.2
 refine ⟨by omega, by omega, by omega, fun x hx => ?_, ?_⟩
 ·unfold incB at h1
  simp only [List.all_eq_true, List.mem_range, Bool.and_eq_true] at h1
  obtain ⟨i, hi, e⟩ := getD_mem (a := (0 : Int)) hx
  have h6 := (h1 i hi).1
  rw [e] at h6
  have h7 := serB_nat h6
  have h8 : x.toNat < 65536 := h7.2
  omega
 ·split at h5
  ·rename_i hk
   simp only [Bool.and_eq_true, beq_iff_eq, List.isEmpty_iff] at h5
   exact .inl ⟨hk, h5⟩
  ·simp only [Bool.and_eq_true, beq_iff_eq, decide_eq_true_eq] at h5
   exact .inr ⟨h5.1.1.1, h5.1.1.2, h5.1.2, h5.2⟩
theorem rstBack {k n la r : Int} {xs : List Int} (h : resetV k n la r xs = true) : getRsxV ⟨130, 0, resetB k n la r xs⟩ = .tup [rstP k n la r (.fs 1 (xs.map eI)), .int .i64 0] := by
 obtain ⟨b1, b2, b3, b4, b5⟩ := rstB h
 have hn32 : n.toNat < 256 ^ 4 := by show n.toNat < 4294967296; omega
 have hl32 : la.toNat < 256 ^ 4 := by show la.toNat < 4294967296; omega
 have hr8 : r.toNat < 256 ^ 1 := by show r.toNat < 256; omega
 obtain ⟨s, hs⟩ : ∃ s, s = resetB k n la r xs := ⟨_, rfl⟩
 rw [← hs]
 have fin : rsxG s = ⟨k, n, la, r, xs⟩ → resetMin s ≤ s.length → resetP s = s.length → getRsxV ⟨130, 0, s⟩ = .tup [rstP k n la r (.fs 1 (xs.map eI)), .int .i64 0] := by
  intro hd h1 h2
  have hok : rsxOk ⟨130, 0, s⟩ = true := by
   unfold rsxOk
   simp only [hd, Rsx.ok, Rsx.oct, h, ← hs, decide_true, Bool.and_true, Bool.and_eq_true, decide_eq_true_eq]
   exact ⟨h1, h2⟩
  unfold getRsxV
  rw [if_pos rfl, if_pos hok, hd]
  rfl
 rcases b5 with ⟨rfl, rfl, rfl⟩ | ⟨rfl, rfl, c1, c2⟩
 ·have hs2 : s = putB 1 2 ++ putB 4 n.toNat ++ putB 1 r.toNat := by rw [hs]; unfold resetB; rw [if_pos rfl]
  have e0 : s = [] ++ (putB 1 2 ++ (putB 4 n.toNat ++ putB 1 r.toNat)) := by rw [hs2]; simp
  have e1 : s = putB 1 2 ++ (putB 4 n.toNat ++ putB 1 r.toNat) := by rw [hs2]; simp
  have e5 : s = (putB 1 2 ++ putB 4 n.toNat) ++ (putB 1 r.toNat ++ []) := by rw [hs2]; simp
  have hl : s.length = 6 := by rw [hs2]; simp [putB_len]
  have g0 : getB (s.take 1) = 2 := by
   have := num_at (A := []) (n := 1) (v := 2) (R := putB 4 n.toNat ++ putB 1 r.toNat) (p := 0) rfl (by omega)
   rw [← e0] at this; simpa using this
  have g1 : getB ((s.drop 1).take 4) = n.toNat := by rw [e1]; exact num_at (by simp [putB_len]) hn32
  have g5 : getB ((s.drop 5).take 1) = r.toNat := by rw [e5]; exact num_at (by simp [putB_len]) hr8
  refine fin ?_ ?_ ?_
  ·unfold rsxG
   rw [if_neg (by rw [g0]; omega), g1, g5]
   congr 1 <;> omega
  ·unfold resetMin; rw [if_neg (by rw [g0]; omega)]; omega
  ·unfold resetP; rw [if_neg (by rw [g0]; omega)]; omega
 ·obtain ⟨es, hes⟩ : ∃ es, es = xs.map Int.toNat := ⟨_, rfl⟩
  have hel : es.length = xs.length := by rw [hes]; simp
  have heb : ∀ x ∈ es, x < 256 ^ 2 := by
   intro x hx
   rw [hes] at hx
   obtain ⟨y, hy, rfl⟩ := List.mem_map.1 hx
   have := b4 y hy
   show y.toNat < 65536; omega
  have hse : es.map (fun x : Nat => (x : Int)) = xs := by rw [hes]; exact mapN xs fun x hx => (b4 x hx).1
  obtain ⟨D, hD⟩ : ∃ D, D = es.flatMap (putB 2) := ⟨_, rfl⟩
  have hDl : D.length = 2 * es.length := by
   rw [hD]
   clear heb hel hse hD hes
   induction es with
   | nil => rfl
   | cons a l ih => rw [List.flatMap_cons, List.length_append, ih, putB_len, List.length_cons]; omega
  have hs2 : s = putB 1 1 ++ putB 4 n.toNat ++ (putB 4 la.toNat ++ D) := by rw [hs, hD, hes]; unfold resetB; rw [if_neg (by omega)]
  have e0 : s = [] ++ (putB 1 1 ++ (putB 4 n.toNat ++ (putB 4 la.toNat ++ D))) := by rw [hs2]; simp
  have e1 : s = putB 1 1 ++ (putB 4 n.toNat ++ (putB 4 la.toNat ++ D)) := by rw [hs2]; simp
  have e5 : s = (putB 1 1 ++ putB 4 n.toNat) ++ (putB 4 la.toNat ++ D) := by rw [hs2]
  have e9 : s = (putB 1 1 ++ putB 4 n.toNat ++ putB 4 la.toNat) ++ (D ++ []) := by rw [hs2]; simp
  have hl : s.length = 9 + 2 * es.length := by rw [hs2]; simp [putB_len, hDl]; omega
  have hN : resetN s = es.length := by unfold resetN; omega
  have g0 : getB (s.take 1) = 1 := by
   have := num_at (A := []) (n := 1) (v := 1) (R := putB 4 n.toNat ++ (putB 4 la.toNat ++ D)) (p := 0) rfl (by omega)
   rw [← e0] at this; simpa using this
  have g1 : getB ((s.drop 1).take 4) = n.toNat := by rw [e1]; exact num_at (by simp [putB_len]) hn32
  have g5 : getB ((s.drop 5).take 4) = la.toNat := by rw [e5]; exact num_at (by simp [putB_len]) hl32
  have g9 : numsG s 9 2 (resetN s) = es := by
   rw [hN, e9, hD]; exact nums_at es _ [] 9 (by simp [putB_len]) heb
  refine fin ?_ ?_ ?_
  ·unfold rsxG
   rw [if_pos g0, g1, g5, g9, hse]
   congr 1 <;> omega
  ·unfold resetMin; rw [if_pos g0]; omega
  ·unfold resetP; rw [if_pos g0, hN]; omega
theorem serB_mk {b x : Int} (h0 : 0 ≤ x) (h : x < 2 ^ b.toNat) : serB b x = true := by unfold serB; simp [h0, h]
theorem serB_32 {x : Int} (h0 : 0 ≤ x) (h : x < 4294967296) : serB 32 x = true := serB_mk h0 h
theorem serB_16 {x : Int} (h0 : 0 ≤ x) (h : x < 65536) : serB 16 x = true := serB_mk h0 h
theorem serB_8 {x : Int} (h0 : 0 ≤ x) (h : x < 256) : serB 8 x = true := serB_mk h0 h
theorem Pcx.Ok.dat {p : Pcx} (h : p.Ok) : p.dat.ok = true := by
 have h1 := h.a
 have h2 := h.d
 have h3 := someX_len p.pl 100 (by omega)
 unfold Dat.ok Pcx.dat
 simp only [Bool.and_eq_true, Bool.or_eq_true, decide_eq_true_eq]
 refine ⟨⟨serB_32 (by omega) (by omega), serB_32 (by omega) (by omega)⟩, ⟨serB_16 (by omega) (by omega), ?_⟩, by omega, by omega, ?_⟩
 ·split
  ·exact serB_16 (by omega) (by omega)
  ·exact serB_16 (by omega) (by omega)
 ·cases p.lo <;> simp
theorem Pcx.Ok.ini {p : Pcx} (h : p.Ok) (ck : Bool) : (p.ini ck).ok = true := by
 have h1 := h.a
 have h2 := h.b
 have h4 := h.d
 have h3 := someX_len p.pl 200 (by omega)
 unfold Ini.ok Pcx.ini
 simp only [Bool.and_eq_true, decide_eq_true_eq]
 refine ⟨⟨serB_32 (by omega) (by omega), serB_32 (by omega) (by omega), serB_32 (by omega) (by omega)⟩, ⟨serB_16 (by omega) (by omega), serB_16 (by omega) (by omega)⟩, by omega, by omega, by omega, ?_⟩
 cases ck
 ·simp
 ·simp only [if_true]; omega
theorem Pcx.sk_at (p : Pcx) {n i : Nat} (h : i < n) : ((p.sk n).map kN).getD i (0, 0) = kN (p.fa i, (p.x i).1 * (p.x i).2) := by
 simp [Pcx.sk, List.getD_eq_getElem?_getD, h]
theorem Pcx.Ok.fwd {p : Pcx} (h : p.Ok) : fwdV p.a ((p.sk p.n).map kN) = true := by
 have h1 := h.a
 have hn : p.n ≤ 30 := by unfold Pcx.n; omega
 unfold fwdV
 simp only [Bool.and_eq_true, List.all_eq_true, List.mem_range, decide_eq_true_eq, List.length_map, Pcx.sk_len]
 refine ⟨fun i hi => ?_, serB_32 (by omega) (by omega), hn⟩
 have hf := Pcx.fa_le h i
 have hx := h.x i
 have hm : (p.x i).1 * (p.x i).2 ≤ 255 * 255 := Nat.mul_le_mul (by omega) (by omega)
 unfold okSk
 simp only [p.sk_at hi, kN, Bool.and_eq_true, Bool.or_eq_true, beq_iff_eq, decide_eq_true_eq]
 refine ⟨⟨serB_16 (by omega) (by omega), serB_16 (Int.natCast_nonneg _) (by omega)⟩, ?_⟩
 cases i with
 | zero => exact .inl rfl
 | succ i =>
  right
  rw [show i + 1 - 1 = i from rfl, p.sk_at (show i < p.n by omega)]
  simp only [kN, Pcx.fa]
  omega
theorem Pcx.gp_at (p : Pcx) {n i : Nat} (h : i < n) : ((p.gp n).map kN).getD i (0, 0) = kN (p.ga i + (2 + (p.x i).1), p.ga (i + 1)) := by
 simp [Pcx.gp, List.getD_eq_getElem?_getD, h]
theorem Pcx.Ok.sck {p : Pcx} (h : p.Ok) : sackV p.a p.b ((p.gp p.n).map kN) ((p.db (p.c % 6)).map fun x : Nat => (x : Int)) = true := by
 have h1 := h.a
 have h2 := h.b
 have hn : p.n ≤ 30 := by unfold Pcx.n; omega
 unfold sackV
 simp only [Bool.and_eq_true, List.all_eq_true, List.mem_range, decide_eq_true_eq, List.length_map, Pcx.gp_len, Pcx.db_len]
 refine ⟨fun i hi => ?_, ⟨serB_32 (by omega) (by omega), serB_32 (by omega) (by omega)⟩, hn, by omega, fun x hx => ?_⟩
 ·have hf := Pcx.ga_le h (i + 1)
  unfold okGp
  simp only [p.gp_at hi, kN, Bool.and_eq_true, decide_eq_true_eq]
  have hb : befG ((p.gp p.n).map kN) i = p.ga i := by
   unfold befG
   cases i with
   | zero => simp [Pcx.ga]
   | succ i => rw [if_neg (by omega), show i + 1 - 1 = i from rfl, p.gp_at (show i < p.n by omega)]; rfl
  rw [hb]
  have hga : p.ga (i + 1) = p.ga i + 2 + (p.x i).1 + (p.x i).2 := rfl
  omega
 ·obtain ⟨y, hy, rfl⟩ := List.mem_map.1 hx
  simp only [Pcx.db, List.mem_map] at hy
  obtain ⟨j, _, rfl⟩ := hy
  exact serB_32 (Int.natCast_nonneg _) (by omega)
def Pcx.rst (p : Pcx) : Rsx := if p.m8 then ⟨2, p.a, 0, ((p.b % 256 : Nat) : Int), []⟩ else ⟨1, p.a, p.b, 0, p.ss p.n9⟩
theorem Pcx.ss_at (p : Pcx) {n i : Nat} (h : i < n + 1) : (p.ss n).getD i 0 = (p.sa i : Int) := by
 simp [Pcx.ss, List.getD_eq_getElem?_getD, h]
theorem Pcx.Ok.rst {p : Pcx} (h : p.Ok) : resetV p.rst.kind p.rst.num p.rst.last p.rst.res p.rst.xs = true := by
 have h1 := h.a
 have h2 := h.b
 have hn : p.n9 ≤ 29 := by unfold Pcx.n9; omega
 unfold Pcx.rst
 cases p.m8 with
 | true =>
  simp only [if_true]
  unfold resetV
  simp only [Bool.and_eq_true]
  refine ⟨⟨⟨⟨rfl, serB_32 (by omega) (by omega)⟩, serB_32 (by omega) (by omega)⟩, serB_8 (by omega) (by omega)⟩, by simp⟩
 | false =>
  simp only [Bool.false_eq_true, if_false]
  unfold resetV
  simp only [Bool.and_eq_true]
  refine ⟨⟨⟨⟨?_, serB_32 (by omega) (by omega)⟩, serB_32 (by omega) (by omega)⟩, serB_8 (by omega) (by omega)⟩, ?_⟩
  ·unfold incB
   simp only [List.all_eq_true, List.mem_range, Pcx.ss_len, Bool.and_eq_true, Bool.or_eq_true, beq_iff_eq, decide_eq_true_eq]
   intro i hi
   have hf := Pcx.sa_le h i
   rw [p.ss_at hi]
   refine ⟨serB_16 (by omega) (by omega), ?_⟩
   cases i with
   | zero => exact .inl rfl
   | succ i =>
    right
    rw [show i + 1 - 1 = i from rfl, p.ss_at (show i < p.n9 + 1 by omega)]
    simp only [Pcx.sa]
    omega
  ·rw [if_neg (by omega)]
   simp [Pcx.ss_len]; omega
theorem gotD (d : Dat) (h : d.ok = true) : ∃ fl b, (∀ (F : SF) (L nx : Nat), Con Tryz.prog 21 [.agg d.row] F L nx nx (putP 0 fl b) [] []) ∧ ∀ (F : SF) (L nx : Nat), Con Tryz.prog 43 [.agg [.int .i64 0, .int .i64 fl, .str b]] F L nx nx (.tup [.agg d.row, .int .i64 0]) [] [] := by
 refine ⟨flD d.la d.fi d.lo 3, dataB d, fun F L nx => ?_, fun F L nx => ?_⟩
 ·have h1 := putData_ok (F := F) (L := L) (nx := nx) d
  rw [h, if_pos rfl] at h1
  exact h1
 ·have h2 := getDataT_ok (F := F) (L := L) (nx := nx) ⟨0, flD d.la d.fi d.lo 3, dataB d⟩ (by
   unfold Dat.ok at h
   simp only [Bool.and_eq_true, decide_eq_true_eq] at h
   simp [dataB, putB_len]; omega)
  rw [dataBack h] at h2
  exact h2
theorem gotI (d : Ini) (h : d.ok = true) : ∃ k b, (∀ (F : SF) (L nx : Nat), Con Tryz.prog 30 [.agg d.row] F L nx nx (putP k 0 b) [] []) ∧ ∀ (F : SF) (L nx : Nat), Con Tryz.prog 44 [.agg [.int .i64 k, .int .i64 0, .str b]] F L nx nx (.tup [.agg d.row, .int .i64 0]) [] [] := by
 refine ⟨iniK d.ck, d.oct, fun F L nx => ?_, fun F L nx => ?_⟩
 ·have h1 := putInit_ok (F := F) (L := L) (nx := nx) d
  rw [h, if_pos rfl] at h1
  exact h1
 ·have h2 := getInitT_ok (F := F) (L := L) (nx := nx) ⟨iniK d.ck, 0, d.oct⟩ (by
   unfold Ini.ok at h
   simp only [Bool.and_eq_true, decide_eq_true_eq] at h
   simp [Ini.oct, iniB, putB_len]; omega)
  rw [iniBack h] at h2
  exact h2
theorem gotS (c w : Int) (gs : List (Int × Int)) (ds : List Int) (h : sackV c w gs ds = true) : ∃ b, (∀ (F : SF) (L nx : Nat), Con Tryz.prog 26 [sackP c w gs ds] F L nx nx (putP 3 0 b) [] []) ∧ ∀ (F : SF) (L nx : Nat), Con Tryz.prog 45 [.agg [.int .i64 3, .int .i64 0, .str b]] F L nx nx (.tup [sackP c w gs ds, .int .i64 0]) [] [] := by
 obtain ⟨_, _, _, h4, h5, _⟩ := sackB h
 refine ⟨sackO c w gs ds, fun F L nx => ?_, fun F L nx => ?_⟩
 ·have h1 := putSack_ok (F := F) (L := L) (nx := nx) c w gs ds (by omega) (by omega)
  rw [h, if_pos rfl] at h1
  exact h1
 ·have e : ∀ l : List Nat, (l.flatMap (putB 4)).length = 4 * l.length := by
   intro l
   induction l with
   | nil => rfl
   | cons a l ih => rw [List.flatMap_cons, List.length_append, ih, putB_len, List.length_cons]; omega
  have h2 := getSackT_ok (F := F) (L := L) (nx := nx) ⟨3, 0, sackO c w gs ds⟩ (by
   simp only [sackO, sackT, List.length_append, putB_len, skT_len, e, List.length_map]; omega)
  rw [sackBack h] at h2
  exact h2
theorem gotF (c : Int) (sk : List (Int × Int)) (h : fwdV c sk = true) : ∃ b, (∀ (F : SF) (L nx : Nat), Con Tryz.prog 34 [fwdP c sk] F L nx nx (putP 192 0 b) [] []) ∧ ∀ (F : SF) (L nx : Nat), Con Tryz.prog 46 [.agg [.int .i64 192, .int .i64 0, .str b]] F L nx nx (.tup [fwdP c sk, .int .i64 0]) [] [] := by
 obtain ⟨_, _, _, h4⟩ := fwdB h
 refine ⟨fwdT c.toNat (sk.map fun k => (k.1.toNat, k.2.toNat)), fun F L nx => ?_, fun F L nx => ?_⟩
 ·have h1 := putForward_ok (F := F) (L := L) (nx := nx) c sk (by omega)
  rw [h, if_pos rfl] at h1
  exact h1
 ·have h2 := getForwardT_ok (F := F) (L := L) (nx := nx) ⟨192, 0, fwdT c.toNat (sk.map fun k => (k.1.toNat, k.2.toNat))⟩ (by
   simp only [fwdT, List.length_append, putB_len, skT_len, List.length_map]; omega)
  rw [fwdBack h] at h2
  exact h2
theorem gotR (k n la r : Int) (xs : List Int) (h : resetV k n la r xs = true) : ∃ b, (∀ (F : SF) (L nx : Nat), Con Tryz.prog 38 [rstP k n la r (.fs 1 (xs.map eI))] F L nx nx (putP 130 0 b) [] []) ∧ ∀ (F : SF) (L nx : Nat), Con Tryz.prog 47 [.agg [.int .i64 130, .int .i64 0, .str b]] F L nx nx (.tup [rstP k n la r (.fs 1 (xs.map eI)), .int .i64 0]) [] [] := by
 obtain ⟨_, _, _, _, h4⟩ := rstB h
 have hx : xs.length ≤ 30 := by rcases h4 with ⟨_, _, h4⟩ | ⟨_, _, _, h4⟩ <;> simp_all
 refine ⟨resetB k n la r xs, fun F L nx => ?_, fun F L nx => ?_⟩
 ·have h1 := putReset_ok (F := F) (L := L) (nx := nx) k n la r xs (by omega)
  rw [h, if_pos rfl] at h1
  exact h1
 ·have e : ∀ l : List Nat, (l.flatMap (putB 2)).length = 2 * l.length := by
   intro l
   induction l with
   | nil => rfl
   | cons a l ih => rw [List.flatMap_cons, List.length_append, ih, putB_len, List.length_cons]; omega
  have h2 := getResetT_ok (F := F) (L := L) (nx := nx) ⟨130, 0, resetB k n la r xs⟩ (by
   unfold resetB
   split
   ·simp only [List.length_append, putB_len]; omega
   ·simp only [List.length_append, putB_len, e, List.length_map]; omega)
  rw [rstBack h] at h2
  exact h2
theorem pReset_ok {F : SF} {L nx : Nat} (p : Pcx) (hp : p.Ok) : Con Tryz.prog 37 [.agg p.row] F L nx nx (rstP p.rst.kind p.rst.num p.rst.last p.rst.res (.fs 1 (p.rst.xs.map eI))) [] [] := by
 unfold Pcx.rst
 cases hm : p.m8 with
 | true => exact pReset1_ok p hp hm
 | false => exact pReset2_ok p hp hm
theorem gotLaw_ok {F : SF} {L nx : Nat} (p : Pcx) (hp : p.Ok) : Con Tryz.prog 8 [.agg p.row] F L nx nx (.bool true) [] [] := by
 have hw := hp.w
 obtain ⟨ck, hck⟩ : ∃ ck, ck = (((p.w : Int).tmod 2) == 0) := ⟨_, rfl⟩
 obtain ⟨d, hd⟩ : ∃ d, d = p.dat := ⟨_, rfl⟩
 obtain ⟨i, hi⟩ : ∃ i, i = p.ini ck := ⟨_, rfl⟩
 obtain ⟨gs, hgs⟩ : ∃ gs, gs = (p.gp p.n).map kN := ⟨_, rfl⟩
 obtain ⟨ds, hds⟩ : ∃ ds, ds = (p.db (p.c % 6)).map fun x : Nat => (x : Int) := ⟨_, rfl⟩
 obtain ⟨sk, hsk⟩ : ∃ sk, sk = (p.sk p.n).map kN := ⟨_, rfl⟩
 obtain ⟨r, hr⟩ : ∃ r, r = p.rst := ⟨_, rfl⟩
 have cD := fun F L nx => pData_ok (F := F) (L := L) (nx := nx) p hp
 have cI := fun F L nx => pInit_ok (F := F) (L := L) (nx := nx) p hp ck
 have cS := fun F L nx => pSack_ok (F := F) (L := L) (nx := nx) p hp
 have cF := fun F L nx => pForward_ok (F := F) (L := L) (nx := nx) p hp
 have cR := fun F L nx => pReset_ok (F := F) (L := L) (nx := nx) p hp
 have vS := hp.sck
 have vF := hp.fwd
 rw [← hd] at cD
 rw [← hi] at cI
 rw [← hgs, ← hds] at cS vS
 rw [← hsk] at cF vF
 rw [← hr] at cR
 obtain ⟨fl, b1, ptD, gD⟩ := gotD d (by rw [hd]; exact hp.dat)
 obtain ⟨k, b2, ptI, gI⟩ := gotI i (by rw [hi]; exact hp.ini ck)
 obtain ⟨b3, ptS, gS⟩ := gotS p.a p.b gs ds vS
 obtain ⟨b4, ptF, gF⟩ := gotF p.a sk vF
 obtain ⟨b5, ptR, gR⟩ := gotR r.kind r.num r.last r.res r.xs (by rw [hr]; exact hp.rst)
 have lS := sackB vS
 have lF := fwdB vF
 obtain ⟨_, _, _, _, lR⟩ := rstB (show resetV r.kind r.num r.last r.res r.xs = true by rw [hr]; exact hp.rst)
 have hx : r.xs.length ≤ 30 := by rcases lR with ⟨_, _, h4⟩ | ⟨_, _, _, h4⟩ <;> simp_all
 have mS := fun F L nx => sameSck_ok (F := F) (L := L) (nx := nx) p.a p.b p.a p.b gs gs ds ds (by omega) (by omega) (by omega) (by omega)
 have mF := fun F L nx => sameFwd_ok (F := F) (L := L) (nx := nx) p.a p.a sk sk (by omega) (by omega)
 have mR := fun F L nx => sameRst_ok (F := F) (L := L) (nx := nx) r.kind r.num r.last r.res r.kind r.num r.last r.res r.xs r.xs (by omega) (by omega)
 simp only [beq_self_eq_true, Bool.and_true] at mS mF mR
 clear hd hi hgs hds hsk hr lS lF lR vS vF
 simp only [Pcx.row, Dat.row, Ini.row, sackP, fwdP, rstP, putP] at cD cI cS cF cR ptD ptI ptS ptF ptR gD gI gS gF gR mS mF mR
 refine bdy Tryz.f8 ?_
 intro F3 hF1 hF2
 have e0 : ((0 : Int) != 0) = false := rfl
 have e1 : ((0 : Int) == 0) = true := rfl
 simp only [Tryz.f8, cx, Pcx.row, go_sem, meths]
 refine CallVC.same works32_ok ?_
 simp only [go_sem]
 refine CallVC.same (cD _ _ _) ?_
 simp only [go_sem]
 refine CallVC.same (ptD _ _ _) ?_
 simp only [go_sem]
 refine CallVC.same (cS _ _ _) ?_
 simp only [go_sem]
 refine CallVC.same (ptS _ _ _) ?_
 simp only [← hck, Nat.add_zero, go_sem]
 repeat refine sd2 ?_
 refine CallVC.same (cI _ _ _) ?_
 simp only [go_sem]
 refine CallVC.same (ptI _ _ _) ?_
 simp only [go_sem]
 refine CallVC.same (cF _ _ _) ?_
 simp only [go_sem]
 refine CallVC.same (ptF _ _ _) ?_
 simp only [go_sem]
 refine CallVC.same (cR _ _ _) ?_
 simp only [go_sem]
 refine CallVC.same (ptR _ _ _) ?_
 simp only [e0, go_sem]
 refine CallVC.same (gD _ _ _) ?_
 simp only [go_sem]
 refine CallVC.same (gS _ _ _) ?_
 simp only [go_sem]
 refine CallVC.same (gI _ _ _) ?_
 simp only [go_sem]
 refine CallVC.same (gF _ _ _) ?_
 simp only [go_sem]
 refine CallVC.same (gR _ _ _) ?_
 simp only [e1, go_sem]
 refine ⟨by kernel_rfl, ?_⟩
 refine CallVC.same (cD _ _ _) ?_
 simp only [beq_self_eq_true, go_sem]
 refine CallVC.same (cS _ _ _) ?_
 simp only [go_sem]
 refine CallVC.same (mS _ _ _) ?_
 simp only [← hck, beq_self_eq_true, Nat.add_zero, go_sem]
 repeat refine sd2 ?_
 refine CallVC.same (cI _ _ _) ?_
 simp only [beq_self_eq_true, go_sem]
 refine CallVC.same (cF _ _ _) ?_
 simp only [go_sem]
 refine CallVC.same (mF _ _ _) ?_
 simp only [beq_self_eq_true, go_sem]
 refine CallVC.same (cR _ _ _) ?_
 simp only [go_sem]
 refine CallVC.same (mR _ _ _) ?_
 simp only [go_sem]
 refine ⟨okDyn_num (fun _ => 0) (by kernel_rfl), ?_⟩
 exact .bool (.inr rfl) rfl rfl (by simp [UpdAll])
end Go.Proofs.YtaacfnngodhecaaGreatDoor
end
