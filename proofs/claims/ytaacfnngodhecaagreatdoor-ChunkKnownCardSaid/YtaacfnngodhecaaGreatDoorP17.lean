/- Lemmas for the walk: WK8, WK24, WK25, WK26, WK41, WK42, WR29, WK28, WK48, WK29, WK30, WK31, WK32, WK33, WK34, WK35, WK44, WK45, U43, WK39, WK39b. -/
import Derived.Test.YtaacfnngodhecaaGreatDoorP16
import Derived.Test.YtaacfnngodhecaaGreatDoorP15
import Derived.Test.YtaacfnngodhecaaGreatDoorP14
import Derived.Test.YtaacfnngodhecaaGreatDoorP10
import Derived.Test.YtaacfnngodhecaaGreatDoorRows
import Derived.ProofKit
import Derived.OpenShut
import Derived.LaidMore
import Derived.Lay
import Derived.Test.YtaacfnngodhecaaGreatDoorP13
import Derived.Test.YtaacfnngodhecaaGreatDoorP12
set_option linter.all false
section
namespace Go.Proofs.YtaacfnngodhecaaGreatDoor
open Go.Tx
set_option maxRecDepth 100000
set_option maxHeartbeats 16000000
def initK (s : List UInt8) : List PV :=
 [.int .i64 (getB (s.take 4)), .int .i64 (getB ((s.drop 4).take 4)), .int .i64 (getB ((s.drop 8).take 2)), .int .i64 (getB ((s.drop 10).take 2)), .int .i64 (getB ((s.drop 12).take 4)), .str (s.drop 16)]
theorem init1_ok {F : SF} (s : List UInt8) (hs : 16 ≤ s.length) (hl : s.length ≤ 1000000) : OfOk 88 [] [] s (.agg (initK s)) s.length F [] := by
 intro F' L r nx hF' hr hrd hFr
 simp only [List.nil_append, List.cons_append]
 refine bdy Tryz.f88 (hrd := (by simp; omega)) ?_
 intro F3 hF1 hF2
 have kr : F3 r = some (rdB s 0) := (hF1 r (by simp)).trans hFr
 have n1 : ∀ k, (r = (⟨L + 1, k⟩ : Nm)) = False := nm_out hr
 have n2 : ∀ k, ((⟨L + 1, k⟩ : Nm) = r) = False := nm_out' hr
 have h32 : r.l ≤ L + 1 := by omega
 simp only [Tryz.f88, cx, rdB, go_sem, meths]
 refine CallVC.same (number_ok r h32 s 0 4 4 rfl (by omega) (by omega) (by omega) (by omega) (by simp [rdB, kr, n1])) ?_
 simp only [rdB, n1, go_sem]
 refine CallVC.same (number_ok r h32 s 4 4 4 rfl (by omega) (by omega) (by omega) (by omega) (by simp [rdB, n1])) ?_
 simp only [rdB, n1, go_sem]
 refine CallVC.same (number_ok r h32 s 8 2 2 rfl (by omega) (by omega) (by omega) (by omega) (by simp [rdB, n1])) ?_
 simp only [rdB, n1, go_sem]
 refine CallVC.same (number_ok r h32 s 10 2 2 rfl (by omega) (by omega) (by omega) (by omega) (by simp [rdB, n1])) ?_
 simp only [rdB, n1, go_sem]
 refine CallVC.same (number_ok r h32 s 12 4 4 rfl (by omega) (by omega) (by omega) (by omega) (by simp [rdB, n1])) ?_
 simp only [rdB, n1, go_sem]
 refine CallVC.same (rest_ok r h32 s 16 (by omega) hl (by simp [rdB, n1])) ?_
 simp only [rdB, n1, n2, go_sem]
 repeat refine sd1 ?_
 exact PostF.of (p := True) (v0 := .agg (initK s)) (.inr rfl) (by simp only [initK, resVal, resVals, resVal1, one, List.drop_zero, go_sem]) trivial (wk_refl _ _).1 (by rw [(wk_refl (fun _ => none) _).2]; simp) (by rfl) ⟨hr, by simp [BW, Tx.look, n1], trivial⟩ (by simp [UpdAll, keys])
theorem init1_die {F : SF} (s : List UInt8) (hs : s.length < 16) : OfDie 88 [] [] s F [] := by
 intro F' L r hF' hr hrd hFr
 simp only [List.nil_append, List.cons_append]
 refine DCon.body (cxOk (L + 1)) rfl rfl (fn := Tryz.f88) (c := Tryz.f88.body.getD .skip) (by kernel_rfl) (by rfl) (by kernel_rfl) rfl  (by simp; omega) ?_
 intro F3 hF1 hF2
 have kr : F3 r = some (rdB s 0) := (hF1 r (by simp)).trans hFr
 have n1 : ∀ k, (r = (⟨L + 1, k⟩ : Nm)) = False := nm_out hr
 have n2 : ∀ k, ((⟨L + 1, k⟩ : Nm) = r) = False := nm_out' hr
 have h32 : r.l ≤ L + 1 := by omega
 simp only [Tryz.f88, cx, go_sem, meths]
 by_cases g0 : s.length < 4
 ·refine CallVD.same rfl (number_die r h32 s 0 4 4 rfl (by omega) (by omega) (by omega) (by omega) (by omega) (by simp [rdB, kr, n1, Tx.look])) ?_
  exact .dead (ns := [r]) (by simpa using hr) (by simp [UpdAll, updH, setH, n1, n2])
 refine CallVD.live (CallVC.same (number_ok r h32 s 0 4 4 rfl (by omega) (by omega) (by omega) (by omega) (by simp [rdB, kr, n1])) ?_)
 simp only [rdB, n1, go_sem]
 by_cases g4 : s.length < 8
 ·refine CallVD.same rfl (number_die r h32 s 4 4 4 rfl (by omega) (by omega) (by omega) (by omega) (by omega) (by simp [rdB, n1, Tx.look])) ?_
  exact .dead (ns := [r]) (by simpa using hr) (by simp [UpdAll, updH, setH, n1, n2])
 refine CallVD.live (CallVC.same (number_ok r h32 s 4 4 4 rfl (by omega) (by omega) (by omega) (by omega) (by simp [rdB, n1])) ?_)
 simp only [rdB, n1, go_sem]
 by_cases g8 : s.length < 10
 ·refine CallVD.same rfl (number_die r h32 s 8 2 2 rfl (by omega) (by omega) (by omega) (by omega) (by omega) (by simp [rdB, n1, Tx.look])) ?_
  exact .dead (ns := [r]) (by simpa using hr) (by simp [UpdAll, updH, setH, n1, n2])
 refine CallVD.live (CallVC.same (number_ok r h32 s 8 2 2 rfl (by omega) (by omega) (by omega) (by omega) (by simp [rdB, n1])) ?_)
 simp only [rdB, n1, go_sem]
 by_cases g10 : s.length < 12
 ·refine CallVD.same rfl (number_die r h32 s 10 2 2 rfl (by omega) (by omega) (by omega) (by omega) (by omega) (by simp [rdB, n1, Tx.look])) ?_
  exact .dead (ns := [r]) (by simpa using hr) (by simp [UpdAll, updH, setH, n1, n2])
 refine CallVD.live (CallVC.same (number_ok r h32 s 10 2 2 rfl (by omega) (by omega) (by omega) (by omega) (by simp [rdB, n1])) ?_)
 simp only [rdB, n1, go_sem]
 by_cases g12 : s.length < 16
 ·refine CallVD.same rfl (number_die r h32 s 12 4 4 rfl (by omega) (by omega) (by omega) (by omega) (by omega) (by simp [rdB, n1, Tx.look])) ?_
  exact .dead (ns := [r]) (by simpa using hr) (by simp [UpdAll, updH, setH, n1, n2])
 omega
def sackG (s : List UInt8) : Nat := getB ((s.drop 8).take 2)
def sackD (s : List UInt8) : Nat := getB ((s.drop 10).take 2)
def sackK (s : List UInt8) : List PV :=
 [.int .i64 (getB (s.take 4)), .int .i64 (getB ((s.drop 4).take 4)), .fs 2 ((pairsG s 12 (sackG s)).map eP), .fs 1 ((numsG s (12 + 4 * sackG s) 4 (sackD s)).map eN)]
theorem getB2 (s : List UInt8) (p : Nat) : getB ((s.drop p).take 2) < 65536 := by
 have := getB_lt ((s.drop p).take 2)
 have h2 : ((s.drop p).take 2).length ≤ 2 := by simp; omega
 have h3 := Nat.pow_le_pow_right (n := 256) (by omega) h2
 omega
theorem sack1_ok {F : SF} (s : List UInt8) (hs : 12 + 4 * sackG s + 4 * sackD s ≤ s.length) (hl : s.length ≤ 1000000) : OfOk 90 [] [] s (.agg (sackK s)) (12 + 4 * sackG s + 4 * sackD s) F [] := by
 intro F' L r nx hF' hr hrd hFr
 simp only [List.nil_append, List.cons_append]
 refine bdy Tryz.f90 (hrd := (by simp; omega)) ?_
 intro F3 hF1 hF2
 have kr : F3 r = some (rdB s 0) := (hF1 r (by simp)).trans hFr
 have n1 : ∀ k, (r = (⟨L + 1, k⟩ : Nm)) = False := nm_out hr
 have n2 : ∀ k, ((⟨L + 1, k⟩ : Nm) = r) = False := nm_out' hr
 have h32 : r.l ≤ L + 1 := by omega
 simp only [Tryz.f90, cx, rdB, go_sem, meths]
 refine CallVC.same (number_ok r h32 s 0 4 4 rfl (by omega) (by omega) (by omega) (by omega) (by simp [rdB, kr, n1])) ?_
 simp only [rdB, n1, go_sem]
 refine CallVC.same (number_ok r h32 s 4 4 4 rfl (by omega) (by omega) (by omega) (by omega) (by simp [rdB, n1])) ?_
 simp only [rdB, n1, n2, go_sem]
 refine CallVC.same (number_ok r h32 s 8 2 2 rfl (by omega) (by omega) (by omega) (by omega) (by simp [rdB, n1])) ?_
 simp only [rdB, n1, go_sem]
 refine CallVC.same (number_ok r h32 s 10 2 2 rfl (by omega) (by omega) (by omega) (by omega) (by simp [rdB, n1])) ?_
 simp only [rdB, n1, go_sem]
 have e8 : getB ((s.drop 8).take 2) = sackG s := rfl
 have e10 : getB ((s.drop 10).take 2) = sackD s := rfl
 rw [e8, e10]
 refine CallVC.same (pairs_ok r h32 s 12 (sackG s) _ rfl (by omega) hl (by simp [rdB, n1])) ?_
 simp only [rdB, n1, n2, go_sem]
 repeat refine sd1 ?_
 refine CallVC.same (numbers_ok r h32 s (12 + 4 * sackG s) 4 (sackD s) (by omega) (by omega) (by omega) hl (by simp [rdB, n1])) ?_
 simp only [rdB, n1, n2, go_sem]
 repeat refine sd1 ?_
 exact PostF.of (p := True) (v0 := .agg (sackK s)) (.inr rfl) (by simp only [sackK, resVal, resVals, resVal1, one, List.drop_zero, go_sem]) trivial (wk_refl _ _).1 (by rw [(wk_refl (fun _ => none) _).2]; simp) (by rfl) ⟨hr, by simp [BW, Tx.look, n1], trivial⟩ (by simp [UpdAll, keys])
theorem sack1_die {F : SF} (s : List UInt8) (hs : s.length < 12 + 4 * sackG s + 4 * sackD s ∨ s.length < 12) (hl : s.length ≤ 1000000) : OfDie 90 [] [] s F [] := by
 intro F' L r hF' hr hrd hFr
 simp only [List.nil_append, List.cons_append]
 refine DCon.body (cxOk (L + 1)) rfl rfl (fn := Tryz.f90) (c := Tryz.f90.body.getD .skip) (by kernel_rfl) (by rfl) (by kernel_rfl) rfl  (by simp; omega) ?_
 intro F3 hF1 hF2
 have kr : F3 r = some (rdB s 0) := (hF1 r (by simp)).trans hFr
 have n1 : ∀ k, (r = (⟨L + 1, k⟩ : Nm)) = False := nm_out hr
 have n2 : ∀ k, ((⟨L + 1, k⟩ : Nm) = r) = False := nm_out' hr
 have h32 : r.l ≤ L + 1 := by omega
 simp only [Tryz.f90, cx, go_sem, meths]
 by_cases g0 : s.length < 4
 ·refine CallVD.same rfl (number_die r h32 s 0 4 4 rfl (by omega) (by omega) (by omega) (by omega) (by omega) (by simp [rdB, kr, n1, Tx.look])) ?_
  exact .dead (ns := [r]) (by simpa using hr) (by simp [UpdAll, updH, setH, n1, n2])
 refine CallVD.live (CallVC.same (number_ok r h32 s 0 4 4 rfl (by omega) (by omega) (by omega) (by omega) (by simp [rdB, kr, n1])) ?_)
 simp only [rdB, n1, go_sem]
 by_cases g4 : s.length < 8
 ·refine CallVD.same rfl (number_die r h32 s 4 4 4 rfl (by omega) (by omega) (by omega) (by omega) (by omega) (by simp [rdB, n1, Tx.look])) ?_
  exact .dead (ns := [r]) (by simpa using hr) (by simp [UpdAll, updH, setH, n1, n2])
 refine CallVD.live (CallVC.same (number_ok r h32 s 4 4 4 rfl (by omega) (by omega) (by omega) (by omega) (by simp [rdB, n1])) ?_)
 simp only [rdB, n1, n2, go_sem]
 by_cases g8 : s.length < 10
 ·refine CallVD.same rfl (number_die r h32 s 8 2 2 rfl (by omega) (by omega) (by omega) (by omega) (by omega) (by simp [rdB, n1, Tx.look])) ?_
  exact .dead (ns := [r]) (by simpa using hr) (by simp [UpdAll, updH, setH, n1, n2])
 refine CallVD.live (CallVC.same (number_ok r h32 s 8 2 2 rfl (by omega) (by omega) (by omega) (by omega) (by simp [rdB, n1])) ?_)
 simp only [rdB, n1, go_sem]
 by_cases g10 : s.length < 12
 ·refine CallVD.same rfl (number_die r h32 s 10 2 2 rfl (by omega) (by omega) (by omega) (by omega) (by omega) (by simp [rdB, n1, Tx.look])) ?_
  exact .dead (ns := [r]) (by simpa using hr) (by simp [UpdAll, updH, setH, n1, n2])
 refine CallVD.live (CallVC.same (number_ok r h32 s 10 2 2 rfl (by omega) (by omega) (by omega) (by omega) (by simp [rdB, n1])) ?_)
 simp only [rdB, n1, go_sem]
 have e8 : getB ((s.drop 8).take 2) = sackG s := rfl
 have e10 : getB ((s.drop 10).take 2) = sackD s := rfl
 have b8 := getB2 s 8
 have b10 := getB2 s 10
 rw [e8] at b8
 rw [e10] at b10
 rw [e8, e10]
 by_cases hg : s.length < 12 + 4 * sackG s
 ·refine CallVD.same rfl (pairs_die r h32 s 12 (sackG s) _ rfl (by omega) (by omega) (by omega) hl (by simp [rdB, n1, Tx.look])) ?_
  exact .dead (ns := [r]) (by simpa using hr) (by simp [UpdAll, updH, setH, n1, n2])
 refine CallVD.live (CallVC.same (pairs_ok r h32 s 12 (sackG s) _ rfl (by omega) hl (by simp [rdB, n1])) ?_)
 simp only [rdB, n1, n2, go_sem]
 repeat refine sd1 ?_
 refine CallVD.same rfl (numbers_die r h32 s (12 + 4 * sackG s) 4 (sackD s) (by omega) (by omega) (by omega) (by omega) (by omega) hl (by simp [rdB, n1, Tx.look])) ?_
 exact .dead (ns := [r]) (by simpa using hr) (by simp [UpdAll, updH, setH, n1, n2])
def resetN (s : List UInt8) : Nat := (s.length - 9) / 2
def askK (s : List UInt8) : List PV :=
 [.int .i64 1, .int .i64 (getB ((s.drop 1).take 4)), .int .i64 (getB ((s.drop 5).take 4)), .int .i64 0, .fs 1 ((numsG s 9 2 (resetN s)).map eN)]
theorem reset1_ok {F : SF} {L nx : Nat} (s : List UInt8) (hs : 9 ≤ s.length) (hl : s.length ≤ 1000000) (r : Nm) (hr : r.l ≤ L) (hFr : F r = some (rdB s 1)) : Con Tryz.prog 95 [.ptr r 0 0] F L nx nx (.agg (askK s)) [(r, rdB s (9 + 2 * resetN s))] [r] := by
 refine bdy Tryz.f95 (hrd := (by simp; omega)) ?_
 intro F3 hF1 hF2
 have kr : F3 r = some (rdB s 1) := (hF1 r (by simp)).trans hFr
 have n1 : ∀ k, (r = (⟨L + 1, k⟩ : Nm)) = False := nm_out hr
 have n2 : ∀ k, ((⟨L + 1, k⟩ : Nm) = r) = False := nm_out' hr
 have h32 : r.l ≤ L + 1 := by omega
 simp only [Tryz.f95, cx, rdB, go_sem, meths]
 refine CallVC.same (number_ok r h32 s 1 4 4 rfl (by omega) (by omega) (by omega) (by omega) (by simp [rdB, kr, n1])) ?_
 simp only [rdB, n1, go_sem]
 refine CallVC.same (number_ok r h32 s 5 4 4 rfl (by omega) (by omega) (by omega) (by omega) (by simp [rdB, n1])) ?_
 simp only [rdB, n1, n2, kr, Nat.add_zero, go_sem]
 have e1 : ((s.length : Int) - ((9 : Nat) : Int)).tdiv 2 = (resetN s : Int) := by
  have : ((s.length : Int) - ((9 : Nat) : Int)) = ((s.length - 9 : Nat) : Int) := by omega
  rw [this, Int.tdiv_eq_ediv_of_nonneg (by omega)]
  simp [resetN]
 have hb : 9 + 2 * resetN s ≤ s.length := by unfold resetN; omega
 simp only [e1]
 have hb2 : resetN s ≤ s.length := by omega
 refine ⟨by kernel_rfl, ⟨by omega, by omega⟩, ⟨by omega, by omega, by omega⟩, ?_⟩
 refine CallVC.same (numbers_ok r h32 s 9 2 (resetN s) (by omega) (by omega) (by omega) hl (by simp [rdB, n1])) ?_
 simp only [rdB, n1, n2, go_sem]
 refine ⟨okDyn_num (fun x => if x = r then 1 else x.i % 10000 + 100) (by simp only [numF, List.map, n2, if_true, if_false]; kernel_rfl), ?_⟩
 exact PostF.of (p := True) (v0 := .agg (askK s)) (.inr rfl) (by simp only [askK, resVal, resVals, resVal1, one, go_sem]) trivial (wk_refl _ _).1 (by rw [(wk_refl (fun _ => none) _).2]; simp) (by rfl) ⟨hr, by simp [BW, Tx.look, n1], trivial⟩ (by simp [UpdAll, keys])
theorem reset1_die {F : SF} {L : Nat} (s : List UInt8) (h1 : 1 ≤ s.length) (hs : s.length < 9) (r : Nm) (hr : r.l ≤ L) (hFr : F r = some (rdB s 1)) : DCon Tryz.prog chM 95 [.ptr r 0 0] F L [(r, .dead)] [r] := by
 refine DCon.body (cxOk (L + 1)) rfl rfl (fn := Tryz.f95) (c := Tryz.f95.body.getD .skip) (by kernel_rfl) (by rfl) (by kernel_rfl) rfl  (by simp; omega) ?_
 intro F3 hF1 hF2
 have kr : F3 r = some (rdB s 1) := (hF1 r (by simp)).trans hFr
 have n1 : ∀ k, (r = (⟨L + 1, k⟩ : Nm)) = False := nm_out hr
 have n2 : ∀ k, ((⟨L + 1, k⟩ : Nm) = r) = False := nm_out' hr
 have h32 : r.l ≤ L + 1 := by omega
 simp only [Tryz.f95, cx, go_sem, meths]
 by_cases g1 : s.length < 5
 ·refine CallVD.same rfl (number_die r h32 s 1 4 4 rfl (by omega) (by omega) (by omega) (by omega) (by omega) (by simp [rdB, kr, n1, Tx.look])) ?_
  exact .dead (ns := [r]) (by simpa using hr) (by simp [UpdAll, updH, setH, n1, n2])
 refine CallVD.live (CallVC.same (number_ok r h32 s 1 4 4 rfl (by omega) (by omega) (by omega) (by omega) (by simp [rdB, kr, n1])) ?_)
 simp only [rdB, n1, go_sem]
 by_cases g5 : s.length < 9
 ·refine CallVD.same rfl (number_die r h32 s 5 4 4 rfl (by omega) (by omega) (by omega) (by omega) (by omega) (by simp [rdB, n1, Tx.look])) ?_
  exact .dead (ns := [r]) (by simpa using hr) (by simp [UpdAll, updH, setH, n1, n2])
 omega
def resetK (s : List UInt8) : List PV :=
 if getB (s.take 1) = 1 then askK s else [.int .i64 2, .int .i64 (getB ((s.drop 1).take 4)), .int .i64 0, .int .i64 (getB ((s.drop 5).take 1)), .fs 1 []]
def resetP (s : List UInt8) : Nat := if getB (s.take 1) = 1 then 9 + 2 * resetN s else 6
def resetMin (s : List UInt8) : Nat := if getB (s.take 1) = 1 then 9 else 6
theorem reset2_ok {F : SF} (na : Nm) (ea : TypeId) (oa pa : Bool) (hc : F na = some (.rows ea 1 oa pa [[.fn (.func 95) [] []]])) (s : List UInt8) (hs : resetMin s ≤ s.length) (hl : s.length ≤ 1000000) : OfOk 97 [] [.ptr na 0 0] s (.agg (resetK s)) (resetP s) F [na] := by
 intro F' L r nx hF' hr hrd hFr
 have hcl : na.l ≤ L := hrd na (by simp)
 have hm1 : 1 ≤ s.length := by unfold resetMin at hs; split at hs <;> omega
 have hne : na ≠ r := by
  rintro rfl
  rw [hF' na (by simp), hc] at hFr
  simp [rdB] at hFr
 simp only [List.nil_append, List.cons_append]
 refine bdy Tryz.f97 (hrd := (by simp; omega)) ?_
 intro F3 hF1 hF2
 have kr : F3 r = some (rdB s 0) := (hF1 r (by simp)).trans hFr
 have kc : F3 na = some (.rows ea 1 oa pa [[.fn (.func 95) [] []]]) := (hF1 na (by simp)).trans ((hF' na (by simp)).trans hc)
 have n1 : ∀ k, (r = (⟨L + 1, k⟩ : Nm)) = False := nm_out hr
 have n2 : ∀ k, ((⟨L + 1, k⟩ : Nm) = r) = False := nm_out' hr
 have c1 : ∀ k, (na = (⟨L + 1, k⟩ : Nm)) = False := nm_out hcl
 have e1 : (na = r) = False := eq_false hne
 have h32 : r.l ≤ L + 1 := by omega
 simp only [Tryz.f97, cx, rdB, go_sem, meths]
 refine CallVC.same (number_ok r h32 s 0 1 1 rfl (by omega) (by omega) (by omega) hl (by simp [rdB, kr, n1])) ?_
 by_cases h1 : getB (s.take 1) = 1
 ·have f1 : (((getB (s.take 1) : Nat) : Int) == 1) = true := by simp [h1]
  simp only [resetMin, if_pos h1] at hs
  simp only [resetK, resetP, if_pos h1]
  simp only [f1, kc, c1, e1, List.drop_zero, rdB, n1, go_sem]
  repeat refine sd1 ?_
  refine CallVC.same (reset1_ok s hs hl r h32 (by simp [rdB, n1])) ?_
  simp only [askK, List.drop_zero, rdB, n1, n2, go_sem]
  repeat refine sd1 ?_
  exact PostF.of (p := True) (v0 := .agg [.int .i64 1, .int .i64 (getB ((s.drop 1).take 4)), .int .i64 (getB ((s.drop 5).take 4)), .int .i64 0, .fs 1 ((numsG s 9 2 (resetN s)).map eN)]) (.inr rfl) (by simp only [resVal, resVals, resVal1, one, go_sem]) trivial (wk_refl _ _).1 (by rw [(wk_refl (fun _ => none) _).2]; simp) (by rfl) ⟨hr, by simp [BW, Tx.look, n1], trivial⟩ (by simp [UpdAll, keys])
 ·have f1 : (((getB (s.take 1) : Nat) : Int) == 1) = false := eqF (by omega)
  simp only [resetMin, if_neg h1] at hs
  simp only [resetK, resetP, if_neg h1]
  simp only [f1, List.drop_zero, rdB, n1, go_sem]
  refine CallVC.same (number_ok r h32 s 1 4 4 rfl (by omega) (by omega) (by omega) hl (by simp [rdB, n1])) ?_
  simp only [rdB, n1, go_sem]
  refine CallVC.same (number_ok r h32 s 5 1 1 rfl (by omega) (by omega) (by omega) hl (by simp [rdB, n1])) ?_
  simp only [List.drop_zero, rdB, n1, n2, go_sem]
  repeat refine sd1 ?_
  exact PostF.of (p := True) (v0 := .agg [.int .i64 2, .int .i64 (getB ((s.drop 1).take 4)), .int .i64 0, .int .i64 (getB ((s.drop 5).take 1)), .nilS]) (.inr rfl) (by simp only [resVal, resVals, resVal1, one, go_sem]) trivial (by simp [Wk, WkL]) (by simp [wkN, wkNL]) (by rfl) ⟨hr, by simp [BW, Tx.look, n1], trivial⟩ (by simp [UpdAll, keys])
theorem reset2_die {F : SF} (na : Nm) (ea : TypeId) (oa pa : Bool) (hc : F na = some (.rows ea 1 oa pa [[.fn (.func 95) [] []]])) (s : List UInt8) (hs : s.length < resetMin s) (hl : s.length ≤ 1000000) : OfDie 97 [] [.ptr na 0 0] s F [na] := by
 intro F' L r hF' hr hrd hFr
 have hcl : na.l ≤ L := hrd na (by simp)
 have hne : na ≠ r := by
  rintro rfl
  rw [hF' na (by simp), hc] at hFr
  simp [rdB] at hFr
 simp only [List.nil_append, List.cons_append]
 refine DCon.body (cxOk (L + 1)) rfl rfl (fn := Tryz.f97) (c := Tryz.f97.body.getD .skip) (by kernel_rfl) (by rfl) (by kernel_rfl) rfl  (by simp; omega) ?_
 intro F3 hF1 hF2
 have kr : F3 r = some (rdB s 0) := (hF1 r (by simp)).trans hFr
 have kc : F3 na = some (.rows ea 1 oa pa [[.fn (.func 95) [] []]]) := (hF1 na (by simp)).trans ((hF' na (by simp)).trans hc)
 have n1 : ∀ k, (r = (⟨L + 1, k⟩ : Nm)) = False := nm_out hr
 have n2 : ∀ k, ((⟨L + 1, k⟩ : Nm) = r) = False := nm_out' hr
 have c1 : ∀ k, (na = (⟨L + 1, k⟩ : Nm)) = False := nm_out hcl
 have e1 : (na = r) = False := eq_false hne
 have h32 : r.l ≤ L + 1 := by omega
 simp only [Tryz.f97, cx, go_sem, meths]
 by_cases h0 : s.length < 1
 ·refine CallVD.same rfl (number_die r h32 s 0 1 1 rfl (by omega) (by omega) (by omega) (by omega) (by omega) (by simp [rdB, kr, n1, Tx.look])) ?_
  exact .dead (ns := [r]) (by simpa using hr) (by simp [UpdAll, updH, setH, n1, n2])
 refine CallVD.live (CallVC.same (number_ok r h32 s 0 1 1 rfl (by omega) (by omega) (by omega) hl (by simp [rdB, kr, n1])) ?_)
 by_cases h1 : getB (s.take 1) = 1
 ·have f1 : (((getB (s.take 1) : Nat) : Int) == 1) = true := by simp [h1]
  simp only [resetMin, if_pos h1] at hs
  simp only [f1, kc, c1, e1, List.drop_zero, rdB, n1, go_sem]
  repeat refine sd1 ?_
  refine CallVD.same rfl (reset1_die s (by omega) hs r h32 (by simp [rdB, n1, Tx.look])) ?_
  exact .dead (ns := [r]) (by simpa using hr) (by simp [UpdAll, updH, setH, n1, n2])
 ·have f1 : (((getB (s.take 1) : Nat) : Int) == 1) = false := eqF (by omega)
  simp only [resetMin, if_neg h1] at hs
  simp only [f1, List.drop_zero, rdB, n1, go_sem]
  by_cases h5 : s.length < 5
  ·refine CallVD.same rfl (number_die r h32 s 1 4 4 rfl (by omega) (by omega) (by omega) (by omega) (by omega) (by simp [rdB, n1, Tx.look])) ?_
   exact .dead (ns := [r]) (by simpa using hr) (by simp [UpdAll, updH, setH, n1, n2])
  refine CallVD.live (CallVC.same (number_ok r h32 s 1 4 4 rfl (by omega) (by omega) (by omega) hl (by simp [rdB, n1])) ?_)
  simp only [rdB, n1, go_sem]
  refine CallVD.same rfl (number_die r h32 s 5 1 1 rfl (by omega) (by omega) (by omega) (by omega) (by omega) (by simp [rdB, n1, Tx.look])) ?_
  exact .dead (ns := [r]) (by simpa using hr) (by simp [UpdAll, updH, setH, n1, n2])
theorem con_rds {P : Program} {f : FuncId} {args : List PV} {F : SF} {L nx top : Nat} {v : PV} {upd : List (Nm × SBlk)} {rd rd' : List Nm} (h : Con P f args F L nx top v upd rd) (hs : ∀ n ∈ rd, n ∈ rd') : Con P f args F L nx top v upd rd' :=
 ⟨h.1, fun F2 h2 => h.2 F2 fun n hn => h2 n (hs n hn)⟩
def datG (c : Ckx) : Dat := ⟨getB (c.bd.take 4), getB ((c.bd.drop 4).take 2), getB ((c.bd.drop 6).take 2), getB ((c.bd.drop 8).take 4), decide (Sx.ibits .and .i64 c.fl 2 > 0), decide (Sx.ibits .and .i64 c.fl 1 > 0), decide (Sx.ibits .and .i64 c.fl 4 > 0), c.bd.drop 12⟩
def datOk (c : Ckx) : Bool := decide (12 ≤ c.bd.length) && ((datG c).ok && (decide (flD (datG c).la (datG c).fi (datG c).lo 3 = c.fl) && decide (dataB (datG c) = c.bd)))
def zDat : Dat := ⟨0, 0, 0, 0, false, false, false, []⟩
def getDatV (c : Ckx) : PV := if c.kd = 0 then (if datOk c then .tup [.agg (datG c).row, .int .i64 0] else .tup [.agg zDat.row, .int .i64 5]) else .tup [.agg zDat.row, .int .i64 2]
theorem getDataT_ok {F : SF} {L nx : Nat} (c : Ckx) (hl : c.bd.length ≤ 1000000) : Con Tryz.prog 43 [.agg c.row] F L nx nx (getDatV c) [] [] := by
 have hcall : ∀ (F : SF) (L nx : Nat) (nc : Nm) (oc : Bool), nc.l ≤ L → F nc = some (.rows 34 3 oc true [c.row]) → Con Tryz.prog 84 [.agg c.row, .fn (.func 85) [] [.ptr nc 0 0], .fn (.func 21) [] [], .fs 1 ([0].map eI)] F L nx nx (getDatV c) [] [nc] := by
  intro F L nx nc oc hn hF
  obtain ⟨k, fl, s⟩ := c
  simp only [Ckx.row] at hF hl ⊢
  unfold getDatV
  by_cases hk : k = 0
  ·subst hk
   have hk1 : (([0] : List Int).any fun x => (0 : Int) == x) = true := rfl
   rw [if_pos rfl]
   have hP : PutOk 21 (datG ⟨0, fl, s⟩).row (if (datG ⟨0, fl, s⟩).ok then 0 else 0) (if (datG ⟨0, fl, s⟩).ok then flD (datG ⟨0, fl, s⟩).la (datG ⟨0, fl, s⟩).fi (datG ⟨0, fl, s⟩).lo 3 else 0) (if (datG ⟨0, fl, s⟩).ok then dataB (datG ⟨0, fl, s⟩) else []) (if (datG ⟨0, fl, s⟩).ok then 0 else 320) := by
    intro F L nx
    have h := putData_ok (F := F) (L := L) (nx := nx) (datG ⟨0, fl, s⟩)
    cases hb : (datG ⟨0, fl, s⟩).ok with
    | true => rw [hb] at h; simpa using h
    | false => rw [hb] at h; simpa using h
   by_cases h12 : 12 ≤ s.length
   ·have hO := data1_ok (F := F) nc 0 fl s s oc hF h12 hl
    rw [show datK fl s = (datG ⟨0, fl, s⟩).row from rfl] at hO
    cases hd : datOk ⟨0, fl, s⟩ with
    | true =>
     rw [if_pos rfl]
     unfold datOk at hd
     simp only [Bool.and_eq_true, decide_eq_true_eq] at hd
     obtain ⟨_, q1, q2, q3⟩ := hd
     rw [q1] at hP
     simp only [if_true, q2, q3] at hP
     exact getData_ok s hl 0 fl 85 21 [] [.ptr nc 0 0] [0] hk1 (by simp) _ rfl rfl [nc] (by simpa using hn) hO hP
    | false =>
     rw [if_neg (by simp)]
     refine getData_bad s hl 0 fl 85 21 [] [.ptr nc 0 0] [0] hk1 (by simp) [nc] (by simpa using hn) (.inr (.inr ⟨_, _, _, _, _, rfl, rfl, hO, hP, ?_⟩))
     rintro ⟨r1, r2, r3, r4⟩
     cases hb : (datG ⟨0, fl, s⟩).ok with
     | false => rw [hb] at r1; simp at r1
     | true =>
      rw [hb] at r3 r4
      simp only [if_true] at r3 r4
      unfold datOk at hd
      simp only [hb, r3, r4, h12, decide_true, Bool.and_true] at hd
      cases hd
   ·have hd : datOk ⟨0, fl, s⟩ = false := by unfold datOk; rw [decide_eq_false (show ¬ 12 ≤ (Ckx.mk 0 fl s).bd.length from h12)]; rfl
    rw [hd, if_neg (by simp)]
    exact getData_bad s hl 0 fl 85 21 [] [.ptr nc 0 0] [0] hk1 (by simp) [nc] (by simpa using hn) (.inl (data1_die nc s (by omega)))
  ·rw [if_neg hk]
   exact con_rds (getData_kind s k fl 85 21 [] [.ptr nc 0 0] [0] (by simpa using hk) (by simp)) (by simp)
 have hv : ∃ d e, getDatV c = .tup [.agg (Dat.row d), .int .i64 e] := by
  unfold getDatV
  split
  ·split
   ·exact ⟨_, _, rfl⟩
   ·exact ⟨_, _, rfl⟩
  ·exact ⟨_, _, rfl⟩
 obtain ⟨d, e, hv⟩ := hv
 rw [hv] at hcall ⊢
 simp only [Ckx.row, Dat.row] at hcall ⊢
 refine bdy Tryz.f43 ?_
 intro F3 hF1 hF2
 simp only [Tryz.f43, cx, go_sem, meths]
 repeat refine sd2 ?_
 refine CallVC.gen (args2 := [.agg [.int .i64 c.kd, .int .i64 c.fl, .str c.bd], .fn (.func 85) [] [.ptr ⟨L + 1, 0⟩ 0 0], .fn (.func 21) [] [], .fs 1 ([0].map eI)]) (by simp [WkL, Wk, eI]) (hcall _ _ _ ⟨L + 1, 0⟩ true (by simp) (by simp [wkNL, wkN, unown, SF.upd, SF.set])) ?_
 simp only [wkNL, wkN, unown, go_sem]
 repeat refine sd2 ?_
 exact PostF.same (p := True) (.inr rfl) (by simp only [resVal, resVals, resVal1, one, go_sem]) trivial (by simp [Tx.nf, nfl]) (by simp [UpdAll])
def iniG (c : Ckx) : Ini := ⟨getB (c.bd.take 4), getB ((c.bd.drop 4).take 4), getB ((c.bd.drop 8).take 2), getB ((c.bd.drop 10).take 2), getB ((c.bd.drop 12).take 4), c.bd.drop 16⟩
def iniOk (c : Ckx) : Bool := decide (16 ≤ c.bd.length) && ((iniG c).ok && (decide (iniK (iniG c).ck = c.kd) && (decide ((0 : Int) = c.fl) && decide ((iniG c).oct = c.bd))))
def zIni : Ini := ⟨0, 0, 0, 0, 0, []⟩
def getIniV (c : Ckx) : PV := if c.kd = 1 ∨ c.kd = 2 then (if iniOk c then .tup [.agg (iniG c).row, .int .i64 0] else .tup [.agg zIni.row, .int .i64 5]) else .tup [.agg zIni.row, .int .i64 2]
theorem getInitT_ok {F : SF} {L nx : Nat} (c : Ckx) (hl : c.bd.length ≤ 1000000) : Con Tryz.prog 44 [.agg c.row] F L nx nx (getIniV c) [] [] := by
 have hcall : ∀ (F : SF) (L nx : Nat), Con Tryz.prog 87 [.agg c.row, .fn (.func 88) [] [], .fn (.func 30) [] [], .fs 1 ([1, 2].map eI)] F L nx nx (getIniV c) [] [] := by
  intro F L nx
  obtain ⟨k, fl, s⟩ := c
  simp only [Ckx.row] at hl ⊢
  unfold getIniV
  by_cases hk : k = 1 ∨ k = 2
  ·have hk1 : (([1, 2] : List Int).any fun x => k == x) = true := by simpa using hk
   rw [if_pos hk]
   obtain ⟨d, hdd⟩ : ∃ d, d = iniG ⟨k, fl, s⟩ := ⟨_, rfl⟩
   rw [← hdd]
   have hP : PutOk 30 d.row (if d.ok then iniK d.ck else 0) 0 (if d.ok then d.oct else []) (if d.ok then 0 else 320) := by
    intro F L nx
    have h := putInit_ok (F := F) (L := L) (nx := nx) d
    cases hb : d.ok with
    | true => rw [hb] at h; simpa using h
    | false => rw [hb] at h; simpa using h
   by_cases h12 : 16 ≤ s.length
   ·have hO := init1_ok (F := F) s h12 hl
    rw [show initK s = d.row by rw [hdd]; rfl] at hO
    cases hd : iniOk ⟨k, fl, s⟩ with
    | true =>
     rw [if_pos rfl]
     unfold iniOk at hd
     rw [← hdd] at hd
     simp only [Bool.and_eq_true, decide_eq_true_eq] at hd
     obtain ⟨_, q1, q2, q3, q4⟩ := hd
     rw [q1] at hP
     simp only [if_true, q2, q4] at hP
     subst q3
     exact getInit_ok s hl k 0 88 30 [] [] [1, 2] hk1 (by simp) _ rfl rfl [] (by simp) hO hP
    | false =>
     rw [if_neg (by simp)]
     refine getInit_bad s hl k fl 88 30 [] [] [1, 2] hk1 (by simp) [] (by simp) (.inr (.inr ⟨_, _, _, _, _, rfl, rfl, hO, hP, ?_⟩))
     rintro ⟨r1, r2, r3, r4⟩
     cases hb : d.ok with
     | false => rw [hb] at r1; simp at r1
     | true =>
      rw [hb] at r2 r4
      simp only [if_true] at r2 r4
      unfold iniOk at hd
      rw [← hdd] at hd
      simp only [hb, r2, r3, r4, h12, decide_true, Bool.and_true] at hd
      cases hd
   ·have hd : iniOk ⟨k, fl, s⟩ = false := by unfold iniOk; rw [decide_eq_false (show ¬ 16 ≤ (Ckx.mk k fl s).bd.length from h12)]; rfl
    rw [hd, if_neg (by simp)]
    exact getInit_bad s hl k fl 88 30 [] [] [1, 2] hk1 (by simp) [] (by simp) (.inl (init1_die s (by omega)))
  ·rw [if_neg hk]
   exact getInit_kind s k fl 88 30 [] [] [1, 2] (by simpa using hk) (by simp)
 have hv : ∃ d e, getIniV c = .tup [.agg (Ini.row d), .int .i64 e] := by
  unfold getIniV
  split
  ·split
   ·exact ⟨_, _, rfl⟩
   ·exact ⟨_, _, rfl⟩
  ·exact ⟨_, _, rfl⟩
 obtain ⟨d, e, hv⟩ := hv
 rw [hv] at hcall ⊢
 simp only [Ckx.row, Ini.row] at hcall ⊢
 refine bdy Tryz.f44 ?_
 intro F3 hF1 hF2
 simp only [Tryz.f44, cx, go_sem, meths]
 repeat refine sd2 ?_
 refine CallVC.gen (args2 := [.agg [.int .i64 c.kd, .int .i64 c.fl, .str c.bd], .fn (.func 88) [] [], .fn (.func 30) [] [], .fs 1 ([1, 2].map eI)]) (by simp [WkL, Wk, eI]) (hcall _ _ _) ?_
 simp only [wkNL, wkN, unown, go_sem]
 repeat refine sd2 ?_
 exact PostF.same (p := True) (.inr rfl) (by simp only [resVal, resVals, resVal1, one, go_sem]) trivial (by simp [Tx.nf, nfl]) (by simp [UpdAll])
structure Skx where
 cum : Int
 win : Int
 gs : List (Int × Int)
 ds : List Int
def Skx.v (d : Skx) : PV := sackP d.cum d.win d.gs d.ds
def Skx.ok (d : Skx) : Bool := sackV d.cum d.win d.gs d.ds
def Skx.oct (d : Skx) : List UInt8 := sackO d.cum d.win d.gs d.ds
def sckG (c : Ckx) : Skx := ⟨getB (c.bd.take 4), getB ((c.bd.drop 4).take 4), (pairsG c.bd 12 (sackG c.bd)).map kN, (numsG c.bd (12 + 4 * sackG c.bd) 4 (sackD c.bd)).map fun x : Nat => (x : Int)⟩
theorem sckG_row (c : Ckx) : PV.agg (sackK c.bd) = (sckG c).v := by
 simp only [sackK, sckG, Skx.v, sackP, List.map_map]
 congr 2
def sckN (s : List UInt8) : Nat := 12 + 4 * sackG s + 4 * sackD s
def sckOk (c : Ckx) : Bool := decide (sckN c.bd = c.bd.length) && ((sckG c).ok && (decide ((0 : Int) = c.fl) && decide ((sckG c).oct = c.bd)))
def zSck (e : Int) : PV := .tup [.agg [.int .i64 0, .int .i64 0, .nilS, .nilS], .int .i64 e]
def getSckV (c : Ckx) : PV := if c.kd = 3 then (if sckOk c then .tup [(sckG c).v, .int .i64 0] else zSck 5) else zSck 2
theorem getSackT_ok {F : SF} {L nx : Nat} (c : Ckx) (hl : c.bd.length ≤ 1000000) : Con Tryz.prog 45 [.agg c.row] F L nx nx (getSckV c) [] [] := by
 have hcall : ∀ (F : SF) (L nx : Nat), Con Tryz.prog 89 [.agg c.row, .fn (.func 90) [] [], .fn (.func 26) [] [], .fs 1 ([3].map eI)] F L nx nx (getSckV c) [] [] := by
  intro F L nx
  obtain ⟨k, fl, s⟩ := c
  simp only [Ckx.row] at hl ⊢
  unfold getSckV
  by_cases hk : k = 3
  ·have hk1 : (([3] : List Int).any fun x => k == x) = true := by simpa using hk
   rw [if_pos hk]
   obtain ⟨d, hdd⟩ : ∃ d, d = sckG ⟨k, fl, s⟩ := ⟨_, rfl⟩
   rw [← hdd]
   have hrow : PV.agg (sackK s) = d.v := by rw [hdd]; exact sckG_row ⟨k, fl, s⟩
   have hG : sackG s < 65536 := getB2 s 8
   have hD : sackD s < 65536 := getB2 s 10
   have hP : PutOk 26 (sackK s) (if d.ok then 3 else 0) 0 (if d.ok then d.oct else []) (if d.ok then 0 else 320) := by
    intro F L nx
    have h := putSack_ok (F := F) (L := L) (nx := nx) d.cum d.win d.gs d.ds (by rw [hdd]; simp [sckG, pairsG_len]; omega) (by rw [hdd]; simp [sckG, numsG_len]; omega)
    rw [hrow]
    have e : sackV d.cum d.win d.gs d.ds = d.ok := rfl
    rw [e] at h
    cases hb : d.ok with
    | true => rw [hb] at h; simp only [if_true] at h ⊢; exact h
    | false => rw [hb] at h; simp only [if_false, Bool.false_eq_true] at h ⊢; exact h
   by_cases h12 : s.length < sckN s ∨ s.length < 12
   ·have hd : sckOk ⟨k, fl, s⟩ = false := by
     unfold sckOk
     rw [decide_eq_false (by simp only [sckN] at h12 ⊢; omega)]; rfl
    rw [hd, if_neg (by simp)]
    exact getSack_bad s hl k fl 90 26 [] [] [3] hk1 (by simp) [] (by simp) (.inl (sack1_die s h12 hl))
   ·have hO := sack1_ok (F := F) s (by simp only [sckN] at h12; omega) hl
    by_cases hne : sckN s = s.length
    ·rw [show 12 + 4 * sackG s + 4 * sackD s = s.length from hne] at hO
     cases hd : sckOk ⟨k, fl, s⟩ with
     | true =>
      rw [if_pos rfl]
      unfold sckOk at hd
      rw [← hdd] at hd
      simp only [Bool.and_eq_true, decide_eq_true_eq] at hd
      obtain ⟨_, q1, q3, q4⟩ := hd
      rw [q1] at hP
      simp only [if_true, q4] at hP
      subst q3
      subst hk
      rw [← hrow]
      exact getSack_ok s hl 3 0 90 26 [] [] [3] hk1 (by simp) _ rfl rfl [] (by simp) hO hP
     | false =>
      rw [if_neg (by simp)]
      refine getSack_bad s hl k fl 90 26 [] [] [3] hk1 (by simp) [] (by simp) (.inr (.inr ⟨_, _, _, _, _, rfl, rfl, hO, hP, ?_⟩))
      rintro ⟨r1, r2, r3, r4⟩
      cases hb : d.ok with
      | false => rw [hb] at r1; simp at r1
      | true =>
       rw [hb] at r2 r4
       simp only [if_true] at r2 r4
       unfold sckOk at hd
       rw [← hdd] at hd
       simp only [hb, r3, r4, hne, decide_true, Bool.and_true] at hd
       cases hd
    ·have hd : sckOk ⟨k, fl, s⟩ = false := by
      unfold sckOk
      rw [decide_eq_false hne]; rfl
     rw [hd, if_neg (by simp)]
     exact getSack_bad s hl k fl 90 26 [] [] [3] hk1 (by simp) [] (by simp) (.inr (.inl ⟨_, _, rfl, rfl, hne, hO⟩))
  ·rw [if_neg hk]
   exact getSack_kind s k fl 90 26 [] [] [3] (by simpa using hk) (by simp)
 have hv : ∃ x1 x2 x3 x4 e, getSckV c = .tup [.agg [.int .i64 x1, .int .i64 x2, x3, x4], .int .i64 e] ∧ Tx.nf x3 = true ∧ Tx.nf x4 = true := by
  unfold getSckV
  split
  ·split
   ·exact ⟨_, _, _, _, _, rfl, rfl, rfl⟩
   ·exact ⟨_, _, _, _, _, rfl, rfl, rfl⟩
  ·exact ⟨_, _, _, _, _, rfl, rfl, rfl⟩
 obtain ⟨x1, x2, x3, x4, e, hv, y3, y4⟩ := hv
 rw [hv] at hcall ⊢
 simp only [Ckx.row] at hcall ⊢
 refine bdy Tryz.f45 ?_
 intro F3 hF1 hF2
 simp only [Tryz.f45, cx, go_sem, meths]
 repeat refine sd2 ?_
 refine CallVC.gen (args2 := [.agg [.int .i64 c.kd, .int .i64 c.fl, .str c.bd], .fn (.func 90) [] [], .fn (.func 26) [] [], .fs 1 ([3].map eI)]) (by simp [WkL, Wk, eI]) (hcall _ _ _) ?_
 simp only [wkNL, wkN, unown, go_sem]
 repeat refine sd2 ?_
 exact PostF.same (p := True) (.inr rfl) (by simp only [resVal, resVals, resVal1, one, go_sem]) trivial (by simp [Tx.nf, nfl, y3, y4]) (by simp [UpdAll])
def e2 (x : Nat × Nat) : List PV := [.int .u8 x.1, .int .u8 x.2]
structure Pcx where
 w : Nat
 a : Nat
 b : Nat
 c : Nat
 d : Nat
 l : List (Nat × Nat)
 pl : List UInt8
def Pcx.row (p : Pcx) : List PV := [.int .u8 p.w, .int .u32 p.a, .int .u32 p.b, .int .u32 p.c, .int .u32 p.d, .fs 2 (p.l.map e2), .str p.pl]
structure Pcx.Ok (p : Pcx) : Prop where
 w : p.w < 256
 a : p.a < 4294967296
 b : p.b < 4294967296
 c : p.c < 4294967296
 d : p.d < 4294967296
 l : ∀ x ∈ p.l, x.1 < 256 ∧ x.2 < 256
 ll : p.l.length ≤ maxLen
 pl : p.pl.length ≤ maxLen
def Pcx.lo (p : Pcx) : Bool := decide (0 < Go.Sx.ibits .and .u8 p.w 32)
def Pcx.m8 (p : Pcx) : Bool := decide (0 < Go.Sx.ibits .and .u8 p.w 8)
def Pcx.dat (p : Pcx) : Dat := ⟨p.a, ((p.b % 65536 : Nat) : Int), if p.lo then 0 else ((p.c % 65536 : Nat) : Int), p.d, p.m8, decide (0 < Go.Sx.ibits .and .u8 p.w 16), p.lo, someX p.pl 100⟩
def Pcx.ini (p : Pcx) (ck : Bool) : Ini := ⟨max 1 (p.a : Int), p.b, 1 + ((p.c % 65535 : Nat) : Int), 1 + ((p.c / 65536 % 65535 : Nat) : Int), p.d, if ck then someX p.pl 200 else []⟩
def Pcx.x (p : Pcx) (i : Nat) : Nat × Nat := p.l.getD i (0, 0)
def Pcx.fa (p : Pcx) : Nat → Nat
 | 0 => p.b % 50000
 | i + 1 => p.fa i + 1 + (p.x i).2
def Pcx.sk (p : Pcx) (i : Nat) : List (Nat × Nat) := (List.range i).map fun j => (p.fa j, (p.x j).1 * (p.x j).2)
def Pcx.n (p : Pcx) : Nat := min p.l.length 30
theorem Pcx.Ok.x {p : Pcx} (h : p.Ok) (i : Nat) : (p.x i).1 < 256 ∧ (p.x i).2 < 256 := by
 unfold Pcx.x
 rw [List.getD_eq_getElem?_getD]
 cases hi : p.l[i]? with
 | none => simp
 | some y => simpa using h.l y (List.mem_of_getElem? hi)
def Pcx.sa (p : Pcx) : Nat → Nat
 | 0 => p.c % 50000
 | i + 1 => p.sa i + 1 + (p.x i).1
def Pcx.ss (p : Pcx) (i : Nat) : List Int := (List.range (i + 1)).map fun j => (p.sa j : Int)
def Pcx.n9 (p : Pcx) : Nat := min p.l.length 29
theorem Pcx.ss_len (p : Pcx) (i : Nat) : (p.ss i).length = i + 1 := by simp [Pcx.ss]
theorem Pcx.sa_le {p : Pcx} (h : p.Ok) : ∀ i, p.sa i ≤ 49999 + 256 * i
 | 0 => by simp only [Pcx.sa]; omega
 | i + 1 => by have := Pcx.sa_le h i; have := (h.x i).1; simp only [Pcx.sa]; omega
def Pcx.ga (p : Pcx) : Nat → Nat
 | 0 => 0
 | i + 1 => p.ga i + 2 + (p.x i).1 + (p.x i).2
def Pcx.gp (p : Pcx) (i : Nat) : List (Nat × Nat) := (List.range i).map fun j => (p.ga j + (2 + (p.x j).1), p.ga (j + 1))
def Pcx.db (p : Pcx) (i : Nat) : List Nat := (List.range i).map fun j => (p.d + j * p.c) % 4294967296
end Go.Proofs.YtaacfnngodhecaaGreatDoor
end
section
namespace Go.Proofs.YtaacfnngodhecaaGreatDoor
open Go.ChangeShapes Go.WideShapes Go.ChangeAt Go.RowKit Go.Tx
theorem ownK32 : ownKnob Tryz.prog.godebug = none := by kernel_rfl
theorem laidOut32 : laidOutB Tryz.prog = true := by kernel_rfl
set_option maxRecDepth 100000
theorem undBool32 : Tryz.prog.underlying 4 = some .bool := by kernel_rfl
end Go.Proofs.YtaacfnngodhecaaGreatDoor
end
section
namespace Go.Proofs.YtaacfnngodhecaaGreatDoor
open Go.Tx
set_option maxRecDepth 100000
set_option maxHeartbeats 16000000
theorem putB_succ (i v : Nat) : putB (i + 1) v = byN (v / 256 ^ i) :: putB i v := by
 simp only [putB, byN, List.range_succ_eq_map, List.map_cons, List.map_map]
 congr 1
 apply List.map_congr_left
 intro j hj
 have := List.mem_range.1 hj
 simp only [Function.comp]
 rw [show i + 1 - 1 - j.succ = i - 1 - j by omega]
theorem ckExt {a b : Ckx} (h1 : a.kd = b.kd) (h2 : a.fl = b.fl) (h3 : a.bd = b.bd) : a = b := by cases a; cases b; simp_all
theorem pkExt {a b : Pkx} (h1 : a.fr = b.fr) (h2 : a.tt = b.tt) (h3 : a.tg = b.tg) (h4 : a.cs = b.cs) : a = b := by cases a; cases b; simp_all
theorem rSameP_ok {F : SF} {L nx : Nat} (p q : Pkx) (hp : p.cs.length ≤ 1000000) (hq : q.cs.length ≤ 1000000) (b : Bool) (hb : b = true ↔ p = q) :
  Con Tryz.prog 19 [.agg p.row, .agg q.row] F L nx nx (.bool b) [] [] := by
 have no : p ≠ q → b = false := fun h => by
  cases hb' : b with
  | false => rfl
  | true => exact absurd (hb.1 hb') h
 refine bdy Tryz.f19 ?_
 intro F3 hF1 hF2
 simp only [Pkx.row]
 by_cases h1 : p.fr = q.fr
 rotate_left
 ·have f1 : (p.fr != q.fr) = true := by simpa using h1
  rw [no (fun h => h1 (by rw [h]))]
  simp only [Tryz.f19, cx, f1, Nat.add_zero, go_sem, meths]
  exact .bool (.inr rfl) rfl rfl (by simp [UpdAll])
 have f1 : (p.fr != q.fr) = false := by simpa using h1
 by_cases h2 : p.tt = q.tt
 rotate_left
 ·have f2 : (p.tt != q.tt) = true := by simpa using h2
  rw [no (fun h => h2 (by rw [h]))]
  simp only [Tryz.f19, cx, f1, f2, Nat.add_zero, go_sem, meths]
  exact .bool (.inr rfl) rfl rfl (by simp [UpdAll])
 have f2 : (p.tt != q.tt) = false := by simpa using h2
 by_cases h3 : p.tg = q.tg
 rotate_left
 ·have f3 : (p.tg != q.tg) = true := by simpa using h3
  rw [no (fun h => h3 (by rw [h]))]
  simp only [Tryz.f19, cx, f1, f2, f3, Nat.add_zero, go_sem, meths]
  exact .bool (.inr rfl) rfl rfl (by simp [UpdAll])
 have f3 : (p.tg != q.tg) = false := by simpa using h3
 by_cases h4 : p.cs.length = q.cs.length
 rotate_left
 ·have f4 : ((p.cs.length : Int) != (q.cs.length : Int)) = true := by simp; omega
  rw [no (fun h => h4 (by rw [h]))]
  simp only [Tryz.f19, cx, f1, f2, f3, f4, List.length_map, Nat.add_zero, go_sem, meths]
  exact .bool (.inr rfl) rfl rfl (by simp [UpdAll])
 have f4 : ((p.cs.length : Int) != (q.cs.length : Int)) = false := by simp; omega
 simp only [Tryz.f19, cx, f1, f2, f3, f4, List.length_map, Nat.add_zero, go_sem, meths]
 refine loopK.intro _ _ (I := fun i : Nat => ⟨[none, none, some (.ptr ⟨L + 1, 0⟩ 0 0), some (.ptr ⟨L + 1, 32⟩ 0 0), none, some (.int .i64 i)] ++ oz 46, [(⟨L + 1, 0⟩, .rows 24 4 true true [p.row]), (⟨L + 1, 32⟩, .rows 24 4 true true [q.row])], 10000 * (i + 1)⟩)
  (pre := fun i => i ≤ p.cs.length ∧ ∀ j (h1 : j < p.cs.length) (h2 : j < q.cs.length), j < i → p.cs[j] = q.cs[j]) (μ := fun i => p.cs.length - i) 0 ⟨by omega, by intro j _ _ h; omega⟩ ?_ ?_
 ·refine Sub.of (hfz hF2) (by simp only [go_sem, subT, and_self, Int.natCast_zero]) ?_ (by simp [subK, keys]) (by simp)
  simp [subH, Tx.look, Pkx.row]
 ·rintro i ⟨hi, hpr⟩
  by_cases hlt : i < p.cs.length
  ·have g1 : decide ((i : Int) < (p.cs.length : Int)) = true := dT (by omega)
   have r0 := rowCk hlt
   have r1 := rowCk (cs := q.cs) (i := i) (by omega)
   obtain ⟨x, hx⟩ : ∃ x, x = p.cs[i] := ⟨_, rfl⟩
   obtain ⟨y, hy⟩ : ∃ y, y = q.cs[i] := ⟨_, rfl⟩
   rw [← hx] at r0
   rw [← hy] at r1
   by_cases hxy : x = y
   ·have b1 : (!(x.kd == y.kd && (x.fl == y.fl && x.bd == y.bd))) = false := by rw [hxy]; simp
    simp only [g1, r0, r1, b1, Ckx.row, Pkx.row, List.length_map, Nat.add_assoc, go_sem]
    refine ⟨by kernel_rfl, ?_⟩
    repeat refine sd2 ?_
    refine ⟨okDyn_num (fun x => x.i % 10000) (by simp only [numF, List.map, Nat.reduceMod]; kernel_rfl), ?_⟩
    repeat refine sd2 ?_
    refine ⟨i + 1, ⟨by omega, fun j a1 a2 hj => ?_⟩, by omega, ?_⟩
    ·rcases Nat.lt_or_ge j i with h | h
     ·exact hpr j a1 a2 h
     ·have : j = i := by omega
      subst this
      rw [← hx, ← hy, hxy]
    ·refine Sub.o hF2 ?_
     simp [subH, Tx.look]
   ·have b1 : (!(x.kd == y.kd && (x.fl == y.fl && x.bd == y.bd))) = true := by
     cases hb9 : (x.kd == y.kd && (x.fl == y.fl && x.bd == y.bd)) with
     | false => rfl
     | true =>
      simp only [Bool.and_eq_true, beq_iff_eq] at hb9
      exact absurd (ckExt hb9.1 hb9.2.1 hb9.2.2) hxy
    simp only [g1, r0, r1, b1, Ckx.row, Pkx.row, List.length_map, Nat.add_assoc, go_sem]
    refine ⟨by kernel_rfl, ?_⟩
    repeat refine sd2 ?_
    refine ⟨okDyn_num (fun x => x.i % 10000) (by simp only [numF, List.map, Nat.reduceMod]; kernel_rfl), ?_⟩
    repeat refine sd2 ?_
    rw [no (fun h => hxy (by rw [hx, hy]; congr 1; rw [h]))]
    exact .bool (.inr rfl) rfl rfl (by simp [UpdAll])
  ·have g1 : decide ((i : Int) < (p.cs.length : Int)) = false := dF (by omega)
   simp only [g1, Pkx.row, List.length_map, Nat.add_assoc, go_sem]
   have heq : p = q := pkExt h1 h2 h3 (List.ext_getElem h4 fun k a1 a2 => hpr k a1 a2 (by omega))
   rw [hb.2 heq]
   exact .bool (.inr rfl) rfl rfl (by simp [UpdAll])
theorem lawFails_ok {F : SF} {L nx : Nat} : Con Tryz.prog 55 [.agg [.int .i64 0, .int .i64 0, .str []], .int .i64 320] F L nx nx (.bool true) [] [] := by
 refine bdy Tryz.f55 ?_
 intro F3 hF1 hF2
 simp only [Tryz.f55, cx, go_sem, meths]
 exact .bool (.inr rfl) rfl rfl (by simp [UpdAll])
def dgs : List UInt8 := [48, 49, 50, 51, 52, 53, 54, 55, 56, 57, 97, 98, 99, 100, 101, 102]
def dgP : List PV := [.int .u8 48, .int .u8 49, .int .u8 50, .int .u8 51, .int .u8 52, .int .u8 53, .int .u8 54, .int .u8 55, .int .u8 56, .int .u8 57, .int .u8 97, .int .u8 98, .int .u8 99, .int .u8 100, .int .u8 101, .int .u8 102]
theorem digits_ok {F : SF} {L nx : Nat} : Con Tryz.prog 133 [] F L nx nx (.agg dgP) [] [] := by
 refine bdy Tryz.f133 ?_
 intro F3 hF1 hF2
 simp only [Tryz.f133, cx, go_sem, meths]
 exact PostF.same (p := True) (.inr rfl) (by simp only [dgP, resVal, resVals, resVal1, one, go_sem]) trivial (by rfl) (by simp [UpdAll])
theorem dg_at (k : Nat) (h : k < 16) : dgP.getD k (.tup []) = .int .u8 ((dgs.getD k 0).toNat) := by
 have : ∀ k, k < 16 → dgP[k]? = some (PV.int .u8 ((dgs.getD k 0).toNat)) := by
  intro k hk
  rcases k with _ | _ | _ | _ | _ | _ | _ | _ | _ | _ | _ | _ | _ | _ | _ | _ | k <;> first | rfl | omega
 rw [List.getD_eq_getElem?_getD, this k h]; rfl
theorem and15 (n : Nat) (h : n < 256) : Sx.ibits .and .u8 (n : Int) 15 = ((n % 16 : Nat) : Int) := by
 have : ∀ n : Nat, n < 256 → Sx.ibits .and .u8 (n : Int) 15 = ((n % 16 : Nat) : Int) := of_decide_eq_true (by kernel_rfl)
 exact this n h
theorem shr4 (n : Nat) : (n : Int).fdiv (2 ^ min 4 8) = ((n / 16 : Nat) : Int) := by
 rw [Int.fdiv_eq_ediv_of_nonneg _ (by decide)]
 have : (2 : Int) ^ min 4 8 = 16 := by decide
 rw [this]; omega
def hexS (s : List UInt8) : List UInt8 := s.flatMap fun c => [dgs.getD (c.toNat / 16) 0, dgs.getD (c.toNat % 16) 0]
theorem Hex_ok {F : SF} {L nx : Nat} (s : List UInt8) (hs : s.length ≤ 100000) : Con Tryz.prog 105 [.str s] F L nx nx (.str (hexS s)) [] [] := by
 refine bdy Tryz.f105 ?_
 intro F3 hF1 hF2
 have dgl : dgP.length = 16 := rfl
 have dgn : nfl dgP = true := rfl
 simp only [Tryz.f105, cx, go_sem, meths]
 refine CallVC.same digits_ok ?_
 simp only [dgl, dgn, go_sem]
 repeat refine sd2 ?_
 refine loopK.intro _ _ (I := fun z : Nat × Nat => ⟨[some (.str s), none, none, some (.ptr ⟨L + 1, 32⟩ 0 0), some (.sl ⟨L + 1, z.2⟩ 0 (2 * z.1)), none, none, none, some (.int .i64 s.length), some (.int .i64 z.1)] ++ oz 20, [(⟨L + 1, 32⟩, .rows 215 16 true true [dgP]), (⟨L + 1, z.2⟩, .rows 5 1 true true ((hexS (s.take z.1)).map rowB))], 10000 * (z.1 + 1)⟩)
  (pre := fun z => z.1 ≤ s.length ∧ 100 ≤ z.2 ∧ z.2 < 10000 * (z.1 + 1)) (μ := fun z => s.length - z.1) (0, 224) ⟨by simp, by simp, by simp⟩ ?_ ?_
 ·refine Sub.trans (Sub.nilName 4 5 (wd := 1) (by omega) rfl) ?_
  refine Sub.of (hfz hF2) (by simp only [Nat.mul_zero, go_sem, subT, and_self, Int.natCast_zero]; try trivial) ?_ ?_ ?_
  ·simp [subH, Tx.look, updH, setH, hexS]
  ·simp [subK, keys, updH, setH]
  ·simp
 ·rintro ⟨i, q⟩ ⟨hi, hq0, hq⟩
  simp only at hi hq0 hq ⊢
  have q_0 : (q = 0) = False := by apply eq_false; omega
  have n0_q : (0 = q) = False := by apply eq_false; omega
  have q_32 : (q = 32) = False := by apply eq_false; omega
  have n32_q : (32 = q) = False := by apply eq_false; omega
  obtain ⟨q_n1, q_n2, q_n3, q_n4, q_n5⟩ := nqL L (i := i) (p := q) (by omega)
  by_cases hlt : i < s.length
  ·have f1 : decide ((i : Int) < (s.length : Int)) = true := dT (by omega)
   obtain ⟨c, hc⟩ : ∃ c, c = s[i] := ⟨_, rfl⟩
   have r0 : s.getD i 0 = c := by rw [hc]; simp [List.getD_eq_getElem?_getD, hlt]
   have hc8 := c.toNat_lt
   have k1 := shr4 c.toNat
   have k2 := and15 c.toNat (by omega)
   have k3 := dg_at (c.toNat / 16) (by omega)
   have k4 := dg_at (c.toNat % 16) (by omega)
   have k5 : hexS (s.take (i + 1)) = hexS (s.take i) ++ [dgs.getD (c.toNat / 16) 0, dgs.getD (c.toNat % 16) 0] := by
    rw [List.take_succ_eq_append_getElem hlt, ← hc]; simp [hexS]
   have hl2 : (hexS (s.take i)).length = 2 * i := by
    have : ∀ l : List UInt8, (hexS l).length = 2 * l.length := by
     intro l
     induction l with
     | nil => rfl
     | cons a l ih => simp only [hexS, List.flatMap_cons, List.length_append, List.length_cons, List.length_nil] at ih ⊢; omega
    rw [this, List.length_take]; omega
   simp only [f1, r0, k1, k2, k3, k4, Nat.mul_one, List.length_map, q_32, n32_q, q_n1, q_n2, q_n5, kS2, kS3, Nat.add_assoc, go_sem]
   refine ⟨by kernel_rfl, ?_⟩
   repeat refine sd2 ?_
   refine ⟨okDyn_num (fun x => if x.i = q then 1 else x.i % 10000 + 100) (by simp only [numF, List.map, n32_q, q_n1, if_true, if_false, Nat.mul_add_mod, Nat.reduceMod]; kernel_rfl), ?_⟩
   repeat refine sd2 ?_
   refine ⟨(i + 1, 10000 * (i + 1) + 544), ⟨by simp only []; omega, by simp only []; omega, by simp only []; omega⟩, by simp only []; omega, ?_⟩
   refine Sub.of (hfz hF2) (by simp only [Nat.mul_add, Nat.mul_one, go_sem, subT, and_self, Int.natCast_succ]) ?_ (by simp [subK, keys]) (by simp only []; omega)
   simp [subH, Tx.look, k5, rowB, q_n1, kS2]
  ·have hin : i = s.length := by omega
   subst hin
   have f1 : decide ((s.length : Int) < (s.length : Int)) = false := dF (by omega)
   have hl2 : (hexS s).length = 2 * s.length := by
    have : ∀ l : List UInt8, (hexS l).length = 2 * l.length := by
     intro l
     induction l with
     | nil => rfl
     | cons a l ih => simp only [hexS, List.flatMap_cons, List.length_append, List.length_cons, List.length_nil] at ih ⊢; omega
    rw [this]
   rw [List.take_of_length_le (Nat.le_refl _)]
   simp only [f1, List.length_map, q_32, Nat.add_assoc, go_sem]
   have e1 : List.take (2 * s.length) ((hexS s).map rowB) = (hexS s).map rowB := List.take_of_length_le (by simp [hl2])
   simp only [e1, rowB_bytes]
   refine ⟨⟨by omega, isByte_all _⟩, ?_⟩
   exact PostF.rs (v0 := .str (hexS s)) (.inr rfl)
theorem is1_ok {F : SF} {L nx : Nat} (a b c : Nm) (ha : a.l ≤ L) (hb : b.l ≤ L) (hc : c.l ≤ L) (oa pa ob pb oc pc : Bool) (ea eb ec : TypeId) (k fl : Int) (bd tx : List UInt8) (hl : bd.length ≤ 100000) (ht : hexS bd = tx)
  (hFa : F a = some (.rows ea 1 oa pa [[.int .i64 k]])) (hFb : F b = some (.rows eb 1 ob pb [[.int .i64 fl]])) (hFc : F c = some (.rows ec 1 oc pc [[.str tx]])) :
  Con Tryz.prog 104 [.agg [.int .i64 k, .int .i64 fl, .str bd], .int .i64 0, .ptr a 0 0, .ptr b 0 0, .ptr c 0 0] F L nx nx (.bool true) [] [a, b, c] := by
 refine bdy Tryz.f104 (hrd := (by simp; omega)) ?_
 intro F3 hF1 hF2
 have ka := (hF1 a (by simp)).trans hFa
 have kb := (hF1 b (by simp)).trans hFb
 have kc := (hF1 c (by simp)).trans hFc
 have a1 : ∀ k, (a = (⟨L + 1, k⟩ : Nm)) = False := nm_out ha
 have b1 : ∀ k, (b = (⟨L + 1, k⟩ : Nm)) = False := nm_out hb
 have c1 : ∀ k, (c = (⟨L + 1, k⟩ : Nm)) = False := nm_out hc
 simp only [Tryz.f104, cx, ka, kb, a1, b1, Nat.add_zero, go_sem, meths]
 refine ⟨by kernel_rfl, ?_⟩
 refine CallVC.same (Hex_ok bd hl) ?_
 rw [ht]
 simp only [kc, c1, beq_self_eq_true, go_sem]
 refine ⟨okDyn_num (fun _ => 0) (by kernel_rfl), ?_⟩
 exact .bool (.inr rfl) rfl rfl (by simp [UpdAll])
theorem is_ok {F : SF} {L nx : Nat} (k fl : Int) (tx : List UInt8) :
  Con Tryz.prog 56 [.int .i64 k, .int .i64 fl, .str tx] F L nx (nx + 3) (.fn (.func 104) [] [.ptr ⟨L, nx⟩ 0 0, .ptr ⟨L, nx + 1⟩ 0 0, .ptr ⟨L, nx + 2⟩ 0 0])
   [(⟨L, nx⟩, .rows 3 1 true true [[.int .i64 k]]), (⟨L, nx + 1⟩, .rows 3 1 true true [[.int .i64 fl]]), (⟨L, nx + 2⟩, .rows 9 1 true true [[.str tx]])] [] := by
 refine bdyN Tryz.f56 ?_
 intro F3 hF1 hF2
 simp only [Tryz.f56, cx, go_sem, meths]
 refine .now (.val [0, 32, 64] (.inr rfl) (by simp) (p := True) (v0 := .fn (.func 104) [] [.ptr ⟨L + 1, 0⟩ 0 0, .ptr ⟨L + 1, 32⟩ 0 0, .ptr ⟨L + 1, 64⟩ 0 0]) ?_ trivial ?_ ?_ ⟨?_, ?_, ?_, ?_, ?_, ?_, trivial⟩ ?_)
 ·simp only [resVal, resVals, resVal1, one, go_sem]
 ·simp [nmA, nmAL, Dn]
 ·simp [Tx.rn, Tx.rnL, sg, List.idxOf, List.findIdx, List.findIdx.go]
 ·simp
 ·rw [kp_at0 (by simp)]
  exact .pure (by simp [Tx.look])
 ·simp
 ·rw [kp_at (by simp)]
  exact .pure (by simp [Tx.look])
 ·simp
 ·rw [kp_at (by simp)]
  exact .pure (by simp [Tx.look])
 ·simp [UpdAll, keys]
def pkZ : Pkx := ⟨0, 0, 0, []⟩
theorem refuses_ok {F : SF} {L nx : Nat} (s : List UInt8) (e : Int) (hd : ∀ (F : SF) (L nx : Nat), Con Tryz.prog 17 [.str s] F L nx nx (.tup [.agg [.int .i64 0, .int .i64 0, .int .i64 0, .nilS], .int .i64 e]) [] []) :
  Con Tryz.prog 53 [.str s, .int .i64 e] F L nx nx (.bool true) [] [] := by
 refine bdy Tryz.f53 ?_
 intro F3 hF1 hF2
 simp only [Tryz.f53, cx, go_sem, meths]
 refine CallVC.same (hd _ _ _) ?_
 have f1 : (e == e) = true := by simp
 simp only [f1, go_sem]
 refine CallVC.gen (args2 := [.agg pkZ.row, .agg pkZ.row]) (by simp [Pkx.row, pkZ, WkL, Wk]) (rSameP_ok pkZ pkZ (by simp [pkZ]) (by simp [pkZ]) true (by simp)) ?_
 simp only [Pkx.row, pkZ, List.map_nil, wkNL, wkN, unown, go_sem]
 exact .bool (.inr rfl) rfl rfl (by simp [UpdAll])
end Go.Proofs.YtaacfnngodhecaaGreatDoor
end
section
namespace Go.Tx
section
variable (C : Cx) (F0 : SF)
def restX (i0 j0 : Nat) (l : List Oper) (i : Nat) (Hs : List (Nm × SBlk)) (K : RK) : RK := fun t H nx fps => execX C F0 i0 j0 l i t H Hs nx fps K
theorem restX_app (i0 j0 : Nat) (l : List Oper) (i : Nat) (Hs : List (Nm × SBlk)) (K : RK) (a : Option PV) (t : List (Option PV)) (H : List (Nm × SBlk)) (nx : Nat) (fps : FPs) : restX C F0 i0 j0 l i Hs K (a :: t) H nx fps = execX C F0 i0 j0 l i (a :: t) H Hs nx fps K := propext ⟨fun h => h, fun h => h⟩
theorem xx_nil (i0 j0 i : Nat) (t : List (Option PV)) (H Hs : List (Nm × SBlk)) (nx : Nat) (fps : FPs) (K : RK) : execX C F0 i0 j0 [] i t H Hs nx fps K = K t H nx fps := propext ⟨fun h => h, fun h => h⟩
theorem xx_cons (i0 j0 : Nat) (o : Oper) (l : List Oper) (i : Nat) (t : List (Option PV)) (H Hs : List (Nm × SBlk)) (nx : Nat) (fps : FPs) (K : RK) : execX C F0 i0 j0 (o :: l) i t H Hs nx fps K =
  (match o.guard with
  | some _ => False
  | none =>
   if i = j0 then
    match semOp C.T C.wr (evalT t) (look F0 H) ⟨C.L, nx⟩ o.op, semOp C.T C.wr (evalT t) (look F0 Hs) ⟨C.L, nx⟩ o.op with
    | some r, some r' => r.vc ∧ r'.vc ∧ r'.v = r.v ∧ r.upd = [] ∧ r'.upd = [] ∧ r'.rd = r.rd ∧ execX C F0 i0 j0 l (i + 1) (putT t o.dst r.v) H Hs (nx + 32) (fps ++ [(r.rd, [])]) K
    | _, _ => False
   else opVK C F0 o t H nx fps (restX C F0 i0 j0 l (i + 1) (if i = i0 then H else Hs) K)) := propext ⟨fun h => h, fun h => h⟩
def regKX (ops : List Oper) (i0 j0 : Nat) (Q : Exit → St → Prop) : RK := fun t H nx fps => okDynX ops fps i0 j0 = true ∧ Q .normal ⟨t, H, nx⟩
theorem regKX_app (ops : List Oper) (i0 j0 : Nat) (Q : Exit → St → Prop) (a : Option PV) (t : List (Option PV)) (H : List (Nm × SBlk)) (nx : Nat) (fps : FPs) : regKX ops i0 j0 Q (a :: t) H nx fps = (okDynX ops fps i0 j0 = true ∧ Q .normal ⟨a :: t, H, nx⟩) := propext ⟨fun h => h, fun h => h⟩
end
attribute [go_sem ↓] restX_app xx_nil xx_cons regKX_app
theorem regVX_x2 {C : Cx} {x p : Prop} (h1 : C.dies = false) (h2 : ∃ a l, C.ch = a :: l) (h : x) : RegVX C x p := by
 obtain ⟨a, l, h2⟩ := h2
 unfold RegVX
 rw [h1, h2]
 exact .inr h
theorem RegX.at {C : Cx} {F0 : SF} {p : Prop} {ops : List Oper} {st : St} {Q : Exit → St → Prop} (h1 : C.dies = false) (h2 : ∃ a l, C.ch = a :: l) (i0 j0 : Nat) (hij : i0 < j0) (hst : okStatic ops st.t.length = true)
  (h : execX C F0 i0 j0 ops 0 st.t st.H st.H st.nx [] (regKX ops i0 j0 Q)) : RegVX C (RegX C F0 ops st Q) p := regVX_x2 h1 h2 ⟨i0, j0, hij, hst, h⟩
def okDynXN (ops : List Oper) (fps : List (List Nat × List Nat)) (i0 j0 : Nat) : Bool :=
 decide (i0 < j0) && (fps.zipIdx.all fun x => fps.zipIdx.all fun y => !unord ops x.2 y.2 || (disj x.1.2 y.1.2 && ((x.2 == i0 && y.2 == j0) || disj x.1.2 y.1.1))) &&
 fps.zipIdx.all fun x => !(decide (i0 < x.2) && decide (x.2 < j0)) || disj x.1.2 (fps.getD j0 ([], [])).1
theorem disj_map (φ : Nm → Nat) {a b : List Nm} (h : disj (a.map φ) (b.map φ) = true) : disj a b = true := by
 unfold disj
 rw [List.all_eq_true]
 intro n hn
 simp only [Bool.not_eq_true', List.contains_eq_mem, decide_eq_false_iff_not]
 intro hm
 exact disj_spec h (x := φ n) (List.mem_map.2 ⟨n, hn, rfl⟩) (List.mem_map.2 ⟨n, hm, rfl⟩)
theorem okDynX_num {ops : List Oper} {fps : List (List Nm × List Nm)} {i0 j0 : Nat} (φ : Nm → Nat) (h : okDynXN ops (fps.map (numF φ)) i0 j0 = true) : okDynX ops fps i0 j0 = true := by
 unfold okDynX
 unfold okDynXN at h
 simp only [Bool.and_eq_true] at h ⊢
 obtain ⟨⟨h1, h2⟩, h3⟩ := h
 rw [List.all_eq_true] at h2 h3
 refine ⟨⟨h1, ?_⟩, ?_⟩
 ·rw [List.all_eq_true]
  intro x hx
  rw [List.all_eq_true]
  intro y hy
  obtain ⟨f, i⟩ := x
  obtain ⟨g, j⟩ := y
  rw [List.mem_zipIdx_iff_getElem?] at hx hy
  have h1 := h2 (numF φ f, i) (by rw [List.mem_zipIdx_iff_getElem?]; simp only [List.getElem?_map] at *; rw [hx]; rfl)
  rw [List.all_eq_true] at h1
  have h2 := h1 (numF φ g, j) (by rw [List.mem_zipIdx_iff_getElem?]; simp only [List.getElem?_map] at *; rw [hy]; rfl)
  simp only [Bool.or_eq_true, Bool.and_eq_true] at h2 ⊢
  exact h2.imp id fun hd => ⟨disj_map φ hd.1, hd.2.imp id (disj_map φ)⟩
 ·rw [List.all_eq_true]
  intro x hx
  obtain ⟨f, i⟩ := x
  rw [List.mem_zipIdx_iff_getElem?] at hx
  have h4 := h3 (numF φ f, i) (by rw [List.mem_zipIdx_iff_getElem?]; simp only [List.getElem?_map] at *; rw [hx]; rfl)
  simp only [Bool.or_eq_true] at h4 ⊢
  refine h4.imp id fun hd => disj_map φ ?_
  have : ((fps.map (numF φ)).getD j0 ([], [])).1 = ((fps.getD j0 ([], [])).1).map φ := by
   simp only [List.getD_eq_getElem?_getD, List.getElem?_map]
   cases fps[j0]? <;> rfl
  rw [this] at hd
  exact hd
end Go.Tx
end
section
namespace Go.Proofs.YtaacfnngodhecaaGreatDoor
open Go.Tx
set_option maxRecDepth 100000
set_option maxHeartbeats 16000000
noncomputable def cxf (L : Nat) : Cx := ⟨Tryz.prog, tys, meths, false, L, none, [], [], false, chM, fun _ => False⟩
theorem cxfOk (L : Nat) : (cxf L).Ok := ⟨tysOk, fieldsOk, mixedOk, methsOk⟩
def fwdC (s : List UInt8) : Nat := (s.length - 4) / 4
def fwdK (s : List UInt8) : List PV := [.int .i64 (getB (s.take 4)), .fs 2 ((pairsG s 4 (fwdC s)).map eP)]
theorem forward1_ok {F : SF} (s : List UInt8) (hs : 4 ≤ s.length) (hl : s.length ≤ 1000000) : OfOk 94 [] [] s (.agg (fwdK s)) (4 + 4 * fwdC s) F [] := by
 intro F' L r nx hF' hr hrd hFr
 simp only [List.nil_append, List.cons_append]
 refine Con.body (cxfOk (L + 1)) rfl rfl (fn := Tryz.f94) (c := Tryz.f94.body.getD .skip) (by kernel_rfl) (by rfl) (by kernel_rfl) rfl (by simp; omega) ?_
 intro F3 hF1 hF2
 have kr : F3 r = some (rdB s 0) := (hF1 r (by simp)).trans hFr
 have n1 : ∀ k, (r = (⟨L + 1, k⟩ : Nm)) = False := nm_out hr
 have n2 : ∀ k, ((⟨L + 1, k⟩ : Nm) = r) = False := nm_out' hr
 have h32 : r.l ≤ L + 1 := by omega
 simp only [Tryz.f94, cxf, rdB, go_sem, meths]
 refine RegX.at ?_ ?_ 1 7 (by omega) ?_ ?_
 ·exact rfl
 ·exact ⟨_, _, rfl⟩
 ·kernel_rfl
 simp only [go_sem]
 refine CallVC.same (number_ok r h32 s 0 4 4 rfl (by omega) (by omega) (by omega) hl (by simp [rdB, kr, n1])) ?_
 simp only [rdB, n1, kr, Nat.add_zero, go_sem]
 have t4 : ((s.length : Int) - 4).tdiv 4 = ((fwdC s : Nat) : Int) := by
  rw [Int.tdiv_eq_ediv_of_nonneg (by omega)]; unfold fwdC; omega
 have hc : 4 + 4 * fwdC s ≤ s.length := by unfold fwdC; omega
 rw [t4]
 refine ⟨⟨by omega, by omega⟩, ⟨by omega, by omega, by omega⟩, ?_⟩
 refine CallVC.same (pairs_ok r h32 s 4 (fwdC s) _ rfl (by omega) hl (by simp [rdB, n1])) ?_
 simp only [rdB, n1, n2, go_sem]
 refine ⟨okDynX_num (fun x => if x = r then 1 else x.i % 10000 + 100) (by simp only [numF, List.map, n2, if_true, if_false]; kernel_rfl), ?_⟩
 exact PostF.of (p := True) (v0 := .agg (fwdK s)) (.inr rfl) (by simp only [fwdK, resVal, resVals, resVal1, one, List.drop_zero, go_sem]) trivial (wk_refl _ _).1 (by rw [(wk_refl (fun _ => none) _).2]; simp) (by rfl) ⟨hr, by simp [BW, Tx.look, n1], trivial⟩ (by simp [UpdAll, keys])
theorem forward1_die {F : SF} (s : List UInt8) (hs : s.length < 4) : OfDie 94 [] [] s F [] := by
 intro F' L r hF' hr hrd hFr
 simp only [List.nil_append, List.cons_append]
 refine DCon.body (cxOk (L + 1)) rfl rfl (fn := Tryz.f94) (c := Tryz.f94.body.getD .skip) (by kernel_rfl) (by rfl) (by kernel_rfl) rfl  (by simp; omega) ?_
 intro F3 hF1 hF2
 have kr : F3 r = some (rdB s 0) := (hF1 r (by simp)).trans hFr
 have n1 : ∀ k, (r = (⟨L + 1, k⟩ : Nm)) = False := nm_out hr
 have n2 : ∀ k, ((⟨L + 1, k⟩ : Nm) = r) = False := nm_out' hr
 have h32 : r.l ≤ L + 1 := by omega
 simp only [Tryz.f94, cx, go_sem, meths]
 refine RegVD.dieAt 1 [11, 12, 13] rfl (by simp) (by kernel_rfl) (by kernel_rfl) ?_
 simp only [rdB, n1, kr, Nat.add_zero, go_sem]
 refine dieX.same (number_die r h32 s 0 4 4 rfl (by omega) (by omega) (by omega) (by omega) (by omega) (by simp [rdB, kr, n1, Tx.look])) ?_
 simp only [rdB, n1, kr, Nat.add_zero, go_sem]
 refine ⟨⟨by omega, by omega⟩, ⟨by omega, ?_⟩, okDyn_num (fun x => if x = r then 1 else x.i % 10000 + 100) (by simp only [numF, List.map, if_true]; kernel_rfl), fun nz => ?_⟩
 ·rw [show ((s.length : Int) - 4) = -((4 - s.length : Nat) : Int) by omega, Int.neg_tdiv, Int.tdiv_eq_ediv_of_nonneg (by omega)]
  exact ⟨by omega, by omega⟩
 exact .all rfl (ns := [r]) (by simpa using hr) (by simp [UpdAll, n2]) (by simp [keys])
structure Fwx where
 cum : Int
 sk : List (Int × Int)
def Fwx.v (d : Fwx) : PV := fwdP d.cum d.sk
def Fwx.ok (d : Fwx) : Bool := fwdV d.cum d.sk
def Fwx.oct (d : Fwx) : List UInt8 := fwdT d.cum.toNat (d.sk.map fun k => (k.1.toNat, k.2.toNat))
def fwxG (s : List UInt8) : Fwx := ⟨getB (s.take 4), (pairsG s 4 (fwdC s)).map kN⟩
theorem fwxG_row (s : List UInt8) : PV.agg (fwdK s) = (fwxG s).v := by
 simp only [fwdK, fwxG, Fwx.v, fwdP, List.map_map]
 congr 2
def fwxOk (c : Ckx) : Bool := decide (4 ≤ c.bd.length) && (decide (4 + 4 * fwdC c.bd = c.bd.length) && ((fwxG c.bd).ok && (decide ((0 : Int) = c.fl) && decide ((fwxG c.bd).oct = c.bd))))
def zFwx (e : Int) : PV := .tup [.agg [.int .i64 0, .nilS], .int .i64 e]
def getFwxV (c : Ckx) : PV := if c.kd = 192 then (if fwxOk c then .tup [(fwxG c.bd).v, .int .i64 0] else zFwx 5) else zFwx 2
theorem getForwardT_ok {F : SF} {L nx : Nat} (c : Ckx) (hl : c.bd.length ≤ 1000000) : Con Tryz.prog 46 [.agg c.row] F L nx nx (getFwxV c) [] [] := by
 have hcall : ∀ (F : SF) (L nx : Nat), Con Tryz.prog 93 [.agg c.row, .fn (.func 94) [] [], .fn (.func 34) [] [], .fs 1 ([192].map eI)] F L nx nx (getFwxV c) [] [] := by
  intro F L nx
  obtain ⟨k, fl, s⟩ := c
  simp only [Ckx.row] at hl ⊢
  unfold getFwxV
  by_cases hk : k = 192
  ·have hk1 : (([192] : List Int).any fun x => k == x) = true := by simpa using hk
   rw [if_pos hk]
   obtain ⟨d, hdd⟩ : ∃ d, d = fwxG s := ⟨_, rfl⟩
   simp only
   rw [← hdd]
   have hrow : PV.agg (fwdK s) = d.v := by rw [hdd]; exact fwxG_row s
   have hrl : (fwdK s).length = 2 := rfl
   have hrn : nfl (fwdK s) = true := rfl
   have hP : PutOk 34 (fwdK s) (if d.ok then 192 else 0) 0 (if d.ok then d.oct else []) (if d.ok then 0 else 320) := by
    intro F L nx
    have h := putForward_ok (F := F) (L := L) (nx := nx) d.cum d.sk (by rw [hdd]; simp only [fwxG, List.length_map, pairsG_len, fwdC]; omega)
    rw [hrow]
    have e : fwdV d.cum d.sk = d.ok := rfl
    rw [e] at h
    cases hb : d.ok with
    | true => rw [hb] at h; simp only [if_true] at h ⊢; exact h
    | false => rw [hb] at h; simp only [if_false, Bool.false_eq_true] at h ⊢; exact h
   by_cases h12 : 4 ≤ s.length
   ·have hO := forward1_ok (F := F) s h12 hl
    by_cases hne : 4 + 4 * fwdC s = s.length
    ·rw [hne] at hO
     cases hd : fwxOk ⟨k, fl, s⟩ with
     | true =>
      rw [if_pos rfl]
      unfold fwxOk at hd
      simp only [← hdd] at hd
      simp only [Bool.and_eq_true, decide_eq_true_eq] at hd
      obtain ⟨_, _, q1, q3, q4⟩ := hd
      rw [q1] at hP
      simp only [if_true, q4] at hP
      subst q3
      subst hk
      rw [← hrow]
      exact getForward_ok s hl 192 0 94 34 [] [] [192] hk1 (by simp) _ hrl hrn [] (by simp) hO hP
     | false =>
      rw [if_neg (by simp)]
      refine getForward_bad s hl k fl 94 34 [] [] [192] hk1 (by simp) [] (by simp) (.inr (.inr ⟨_, _, _, _, _, hrl, hrn, hO, hP, ?_⟩))
      rintro ⟨r1, r2, r3, r4⟩
      cases hb : d.ok with
      | false => rw [hb] at r1; simp at r1
      | true =>
       rw [hb] at r2 r4
       simp only [if_true] at r2 r4
       unfold fwxOk at hd
       simp only [← hdd] at hd
       simp only [hb, r3, r4, hne, h12, decide_true, Bool.and_true] at hd
       cases hd
    ·have hd : fwxOk ⟨k, fl, s⟩ = false := by
      unfold fwxOk
      simp only [decide_eq_false hne, Bool.false_and, Bool.and_false]
     rw [hd, if_neg (by simp)]
     exact getForward_bad s hl k fl 94 34 [] [] [192] hk1 (by simp) [] (by simp) (.inr (.inl ⟨_, _, hrl, hrn, hne, hO⟩))
   ·have hd : fwxOk ⟨k, fl, s⟩ = false := by
     unfold fwxOk
     simp only [decide_eq_false h12, Bool.false_and]
    rw [hd, if_neg (by simp)]
    exact getForward_bad s hl k fl 94 34 [] [] [192] hk1 (by simp) [] (by simp) (.inl (forward1_die s (by omega)))
  ·rw [if_neg hk]
   exact getForward_kind s k fl 94 34 [] [] [192] (by simpa using hk) (by simp)
 have hv : ∃ x1 x2 e, getFwxV c = .tup [.agg [.int .i64 x1, x2], .int .i64 e] ∧ Tx.nf x2 = true := by
  unfold getFwxV
  split
  ·split
   ·exact ⟨_, _, _, rfl, rfl⟩
   ·exact ⟨_, _, _, rfl, rfl⟩
  ·exact ⟨_, _, _, rfl, rfl⟩
 obtain ⟨x1, x2, e, hv, y2⟩ := hv
 rw [hv] at hcall ⊢
 simp only [Ckx.row] at hcall ⊢
 refine bdy Tryz.f46 ?_
 intro F3 hF1 hF2
 simp only [Tryz.f46, cx, go_sem, meths]
 repeat refine sd2 ?_
 refine CallVC.gen (args2 := [.agg [.int .i64 c.kd, .int .i64 c.fl, .str c.bd], .fn (.func 94) [] [], .fn (.func 34) [] [], .fs 1 ([192].map eI)]) (by simp [WkL, Wk, eI]) (hcall _ _ _) ?_
 simp only [wkNL, wkN, unown, go_sem]
 repeat refine sd2 ?_
 exact PostF.same (p := True) (.inr rfl) (by simp only [resVal, resVals, resVal1, one, go_sem]) trivial (by simp [Tx.nf, nfl, y2]) (by simp [UpdAll])
end Go.Proofs.YtaacfnngodhecaaGreatDoor
end
