/- Lemmas for the walk: WK8, WK24, WK25, WK26, WK41, WK42, WR29. -/
import Derived.Test.YtaacfnngodhecaaGreatDoorP16
import Derived.Test.YtaacfnngodhecaaGreatDoorP15
import Derived.Test.YtaacfnngodhecaaGreatDoorP14
import Derived.Test.YtaacfnngodhecaaGreatDoorP10
import Derived.Test.YtaacfnngodhecaaGreatDoorRows
import Derived.ProofKit
import Derived.OpenShut
import Derived.LaidMore
import Derived.Lay
set_option linter.all false
section
namespace Go.Proofs.YtaacfnngodhecaaGreatDoor
open Go.Tx
set_option maxRecDepth 100000
set_option maxHeartbeats 16000000
def initK (s : List UInt8) : List PV :=
 [.int .i64 (getB (s.take 4)), .int .i64 (getB ((s.drop 4).take 4)), .int .i64 (getB ((s.drop 8).take 2)), .int .i64 (getB ((s.drop 10).take 2)), .int .i64 (getB ((s.drop 12).take 4)), .str (s.drop 16)]
theorem init1_ok {F : SF} (s : List UInt8) (hs : 16 ≤ s.length) (hl : s.length ≤ 1000000) : OfOk 88 [] [] s (.agg (initK s)) s.length F [] := by
 intro F' L r nx hF' hr hrd hFr
 simp only [List.nil_append, List.cons_append]
 refine bdy Tryz.f88 (hrd := (by simp; omega)) ?_
 intro F3 hF1 hF2
 have kr : F3 r = some (rdB s 0) := (hF1 r (by simp)).trans hFr
 have n1 : ∀ k, (r = (⟨L + 1, k⟩ : Nm)) = False := nm_out hr
 have n2 : ∀ k, ((⟨L + 1, k⟩ : Nm) = r) = False := nm_out' hr
 have h32 : r.l ≤ L + 1 := by omega
 simp only [Tryz.f88, cx, rdB, go_sem, meths]
 refine CallVC.same (number_ok r h32 s 0 4 4 rfl (by omega) (by omega) (by omega) (by omega) (by simp [rdB, kr, n1])) ?_
 simp only [rdB, n1, go_sem]
 refine CallVC.same (number_ok r h32 s 4 4 4 rfl (by omega) (by omega) (by omega) (by omega) (by simp [rdB, n1])) ?_
 simp only [rdB, n1, go_sem]
 refine CallVC.same (number_ok r h32 s 8 2 2 rfl (by omega) (by omega) (by omega) (by omega) (by simp [rdB, n1])) ?_
 simp only [rdB, n1, go_sem]
 refine CallVC.same (number_ok r h32 s 10 2 2 rfl (by omega) (by omega) (by omega) (by omega) (by simp [rdB, n1])) ?_
 simp only [rdB, n1, go_sem]
 refine CallVC.same (number_ok r h32 s 12 4 4 rfl (by omega) (by omega) (by omega) (by omega) (by simp [rdB, n1])) ?_
 simp only [rdB, n1, go_sem]
 refine CallVC.same (rest_ok r h32 s 16 (by omega) hl (by simp [rdB, n1])) ?_
 simp only [rdB, n1, n2, go_sem]
 repeat refine sd1 ?_
 exact PostF.of (p := True) (v0 := .agg (initK s)) (.inr rfl) (by simp only [initK, resVal, resVals, resVal1, one, List.drop_zero, go_sem]) trivial (wk_refl _ _).1 (by rw [(wk_refl (fun _ => none) _).2]; simp) (by rfl) ⟨hr, by simp [BW, Tx.look, n1], trivial⟩ (by simp [UpdAll, keys])
theorem init1_die {F : SF} (s : List UInt8) (hs : s.length < 16) : OfDie 88 [] [] s F [] := by
 intro F' L r hF' hr hrd hFr
 simp only [List.nil_append, List.cons_append]
 refine DCon.body (cxOk (L + 1)) rfl rfl (fn := Tryz.f88) (c := Tryz.f88.body.getD .skip) (by kernel_rfl) (by rfl) (by kernel_rfl) rfl  (by simp; omega) ?_
 intro F3 hF1 hF2
 have kr : F3 r = some (rdB s 0) := (hF1 r (by simp)).trans hFr
 have n1 : ∀ k, (r = (⟨L + 1, k⟩ : Nm)) = False := nm_out hr
 have n2 : ∀ k, ((⟨L + 1, k⟩ : Nm) = r) = False := nm_out' hr
 have h32 : r.l ≤ L + 1 := by omega
 simp only [Tryz.f88, cx, go_sem, meths]
 by_cases g0 : s.length < 4
 ·refine CallVD.same rfl (number_die r h32 s 0 4 4 rfl (by omega) (by omega) (by omega) (by omega) (by omega) (by simp [rdB, kr, n1, Tx.look])) ?_
  exact .dead (ns := [r]) (by simpa using hr) (by simp [UpdAll, updH, setH, n1, n2])
 refine CallVD.live (CallVC.same (number_ok r h32 s 0 4 4 rfl (by omega) (by omega) (by omega) (by omega) (by simp [rdB, kr, n1])) ?_)
 simp only [rdB, n1, go_sem]
 by_cases g4 : s.length < 8
 ·refine CallVD.same rfl (number_die r h32 s 4 4 4 rfl (by omega) (by omega) (by omega) (by omega) (by omega) (by simp [rdB, n1, Tx.look])) ?_
  exact .dead (ns := [r]) (by simpa using hr) (by simp [UpdAll, updH, setH, n1, n2])
 refine CallVD.live (CallVC.same (number_ok r h32 s 4 4 4 rfl (by omega) (by omega) (by omega) (by omega) (by simp [rdB, n1])) ?_)
 simp only [rdB, n1, go_sem]
 by_cases g8 : s.length < 10
 ·refine CallVD.same rfl (number_die r h32 s 8 2 2 rfl (by omega) (by omega) (by omega) (by omega) (by omega) (by simp [rdB, n1, Tx.look])) ?_
  exact .dead (ns := [r]) (by simpa using hr) (by simp [UpdAll, updH, setH, n1, n2])
 refine CallVD.live (CallVC.same (number_ok r h32 s 8 2 2 rfl (by omega) (by omega) (by omega) (by omega) (by simp [rdB, n1])) ?_)
 simp only [rdB, n1, go_sem]
 by_cases g10 : s.length < 12
 ·refine CallVD.same rfl (number_die r h32 s 10 2 2 rfl (by omega) (by omega) (by omega) (by omega) (by omega) (by simp [rdB, n1, Tx.look])) ?_
  exact .dead (ns := [r]) (by simpa using hr) (by simp [UpdAll, updH, setH, n1, n2])
 refine CallVD.live (CallVC.same (number_ok r h32 s 10 2 2 rfl (by omega) (by omega) (by omega) (by omega) (by simp [rdB, n1])) ?_)
 simp only [rdB, n1, go_sem]
 by_cases g12 : s.length < 16
 ·refine CallVD.same rfl (number_die r h32 s 12 4 4 rfl (by omega) (by omega) (by omega) (by omega) (by omega) (by simp [rdB, n1, Tx.look])) ?_
  exact .dead (ns := [r]) (by simpa using hr) (by simp [UpdAll, updH, setH, n1, n2])
 omega
def sackG (s : List UInt8) : Nat := getB ((s.drop 8).take 2)
def sackD (s : List UInt8) : Nat := getB ((s.drop 10).take 2)
def sackK (s : List UInt8) : List PV :=
 [.int .i64 (getB (s.take 4)), .int .i64 (getB ((s.drop 4).take 4)), .fs 2 ((pairsG s 12 (sackG s)).map eP), .fs 1 ((numsG s (12 + 4 * sackG s) 4 (sackD s)).map eN)]
theorem getB2 (s : List UInt8) (p : Nat) : getB ((s.drop p).take 2) < 65536 := by
 have := getB_lt ((s.drop p).take 2)
 have h2 : ((s.drop p).take 2).length ≤ 2 := by simp; omega
 have h3 := Nat.pow_le_pow_right (n := 256) (by omega) h2
 omega
theorem sack1_ok {F : SF} (s : List UInt8) (hs : 12 + 4 * sackG s + 4 * sackD s ≤ s.length) (hl : s.length ≤ 1000000) : OfOk 90 [] [] s (.agg (sackK s)) (12 + 4 * sackG s + 4 * sackD s) F [] := by
 intro F' L r nx hF' hr hrd hFr
 simp only [List.nil_append, List.cons_append]
 refine bdy Tryz.f90 (hrd := (by simp; omega)) ?_
 intro F3 hF1 hF2
 have kr : F3 r = some (rdB s 0) := (hF1 r (by simp)).trans hFr
 have n1 : ∀ k, (r = (⟨L + 1, k⟩ : Nm)) = False := nm_out hr
 have n2 : ∀ k, ((⟨L + 1, k⟩ : Nm) = r) = False := nm_out' hr
 have h32 : r.l ≤ L + 1 := by omega
 simp only [Tryz.f90, cx, rdB, go_sem, meths]
 refine CallVC.same (number_ok r h32 s 0 4 4 rfl (by omega) (by omega) (by omega) (by omega) (by simp [rdB, kr, n1])) ?_
 simp only [rdB, n1, go_sem]
 refine CallVC.same (number_ok r h32 s 4 4 4 rfl (by omega) (by omega) (by omega) (by omega) (by simp [rdB, n1])) ?_
 simp only [rdB, n1, n2, go_sem]
 refine CallVC.same (number_ok r h32 s 8 2 2 rfl (by omega) (by omega) (by omega) (by omega) (by simp [rdB, n1])) ?_
 simp only [rdB, n1, go_sem]
 refine CallVC.same (number_ok r h32 s 10 2 2 rfl (by omega) (by omega) (by omega) (by omega) (by simp [rdB, n1])) ?_
 simp only [rdB, n1, go_sem]
 have e8 : getB ((s.drop 8).take 2) = sackG s := rfl
 have e10 : getB ((s.drop 10).take 2) = sackD s := rfl
 rw [e8, e10]
 refine CallVC.same (pairs_ok r h32 s 12 (sackG s) _ rfl (by omega) hl (by simp [rdB, n1])) ?_
 simp only [rdB, n1, n2, go_sem]
 repeat refine sd1 ?_
 refine CallVC.same (numbers_ok r h32 s (12 + 4 * sackG s) 4 (sackD s) (by omega) (by omega) (by omega) hl (by simp [rdB, n1])) ?_
 simp only [rdB, n1, n2, go_sem]
 repeat refine sd1 ?_
 exact PostF.of (p := True) (v0 := .agg (sackK s)) (.inr rfl) (by simp only [sackK, resVal, resVals, resVal1, one, List.drop_zero, go_sem]) trivial (wk_refl _ _).1 (by rw [(wk_refl (fun _ => none) _).2]; simp) (by rfl) ⟨hr, by simp [BW, Tx.look, n1], trivial⟩ (by simp [UpdAll, keys])
theorem sack1_die {F : SF} (s : List UInt8) (hs : s.length < 12 + 4 * sackG s + 4 * sackD s ∨ s.length < 12) (hl : s.length ≤ 1000000) : OfDie 90 [] [] s F [] := by
 intro F' L r hF' hr hrd hFr
 simp only [List.nil_append, List.cons_append]
 refine DCon.body (cxOk (L + 1)) rfl rfl (fn := Tryz.f90) (c := Tryz.f90.body.getD .skip) (by kernel_rfl) (by rfl) (by kernel_rfl) rfl  (by simp; omega) ?_
 intro F3 hF1 hF2
 have kr : F3 r = some (rdB s 0) := (hF1 r (by simp)).trans hFr
 have n1 : ∀ k, (r = (⟨L + 1, k⟩ : Nm)) = False := nm_out hr
 have n2 : ∀ k, ((⟨L + 1, k⟩ : Nm) = r) = False := nm_out' hr
 have h32 : r.l ≤ L + 1 := by omega
 simp only [Tryz.f90, cx, go_sem, meths]
 by_cases g0 : s.length < 4
 ·refine CallVD.same rfl (number_die r h32 s 0 4 4 rfl (by omega) (by omega) (by omega) (by omega) (by omega) (by simp [rdB, kr, n1, Tx.look])) ?_
  exact .dead (ns := [r]) (by simpa using hr) (by simp [UpdAll, updH, setH, n1, n2])
 refine CallVD.live (CallVC.same (number_ok r h32 s 0 4 4 rfl (by omega) (by omega) (by omega) (by omega) (by simp [rdB, kr, n1])) ?_)
 simp only [rdB, n1, go_sem]
 by_cases g4 : s.length < 8
 ·refine CallVD.same rfl (number_die r h32 s 4 4 4 rfl (by omega) (by omega) (by omega) (by omega) (by omega) (by simp [rdB, n1, Tx.look])) ?_
  exact .dead (ns := [r]) (by simpa using hr) (by simp [UpdAll, updH, setH, n1, n2])
 refine CallVD.live (CallVC.same (number_ok r h32 s 4 4 4 rfl (by omega) (by omega) (by omega) (by omega) (by simp [rdB, n1])) ?_)
 simp only [rdB, n1, n2, go_sem]
 by_cases g8 : s.length < 10
 ·refine CallVD.same rfl (number_die r h32 s 8 2 2 rfl (by omega) (by omega) (by omega) (by omega) (by omega) (by simp [rdB, n1, Tx.look])) ?_
  exact .dead (ns := [r]) (by simpa using hr) (by simp [UpdAll, updH, setH, n1, n2])
 refine CallVD.live (CallVC.same (number_ok r h32 s 8 2 2 rfl (by omega) (by omega) (by omega) (by omega) (by simp [rdB, n1])) ?_)
 simp only [rdB, n1, go_sem]
 by_cases g10 : s.length < 12
 ·refine CallVD.same rfl (number_die r h32 s 10 2 2 rfl (by omega) (by omega) (by omega) (by omega) (by omega) (by simp [rdB, n1, Tx.look])) ?_
  exact .dead (ns := [r]) (by simpa using hr) (by simp [UpdAll, updH, setH, n1, n2])
 refine CallVD.live (CallVC.same (number_ok r h32 s 10 2 2 rfl (by omega) (by omega) (by omega) (by omega) (by simp [rdB, n1])) ?_)
 simp only [rdB, n1, go_sem]
 have e8 : getB ((s.drop 8).take 2) = sackG s := rfl
 have e10 : getB ((s.drop 10).take 2) = sackD s := rfl
 have b8 := getB2 s 8
 have b10 := getB2 s 10
 rw [e8] at b8
 rw [e10] at b10
 rw [e8, e10]
 by_cases hg : s.length < 12 + 4 * sackG s
 ·refine CallVD.same rfl (pairs_die r h32 s 12 (sackG s) _ rfl (by omega) (by omega) (by omega) hl (by simp [rdB, n1, Tx.look])) ?_
  exact .dead (ns := [r]) (by simpa using hr) (by simp [UpdAll, updH, setH, n1, n2])
 refine CallVD.live (CallVC.same (pairs_ok r h32 s 12 (sackG s) _ rfl (by omega) hl (by simp [rdB, n1])) ?_)
 simp only [rdB, n1, n2, go_sem]
 repeat refine sd1 ?_
 refine CallVD.same rfl (numbers_die r h32 s (12 + 4 * sackG s) 4 (sackD s) (by omega) (by omega) (by omega) (by omega) (by omega) hl (by simp [rdB, n1, Tx.look])) ?_
 exact .dead (ns := [r]) (by simpa using hr) (by simp [UpdAll, updH, setH, n1, n2])
def resetN (s : List UInt8) : Nat := (s.length - 9) / 2
def askK (s : List UInt8) : List PV :=
 [.int .i64 1, .int .i64 (getB ((s.drop 1).take 4)), .int .i64 (getB ((s.drop 5).take 4)), .int .i64 0, .fs 1 ((numsG s 9 2 (resetN s)).map eN)]
theorem reset1_ok {F : SF} {L nx : Nat} (s : List UInt8) (hs : 9 ≤ s.length) (hl : s.length ≤ 1000000) (r : Nm) (hr : r.l ≤ L) (hFr : F r = some (rdB s 1)) : Con Tryz.prog 95 [.ptr r 0 0] F L nx nx (.agg (askK s)) [(r, rdB s (9 + 2 * resetN s))] [r] := by
 refine bdy Tryz.f95 (hrd := (by simp; omega)) ?_
 intro F3 hF1 hF2
 have kr : F3 r = some (rdB s 1) := (hF1 r (by simp)).trans hFr
 have n1 : ∀ k, (r = (⟨L + 1, k⟩ : Nm)) = False := nm_out hr
 have n2 : ∀ k, ((⟨L + 1, k⟩ : Nm) = r) = False := nm_out' hr
 have h32 : r.l ≤ L + 1 := by omega
 simp only [Tryz.f95, cx, rdB, go_sem, meths]
 refine CallVC.same (number_ok r h32 s 1 4 4 rfl (by omega) (by omega) (by omega) (by omega) (by simp [rdB, kr, n1])) ?_
 simp only [rdB, n1, go_sem]
 refine CallVC.same (number_ok r h32 s 5 4 4 rfl (by omega) (by omega) (by omega) (by omega) (by simp [rdB, n1])) ?_
 simp only [rdB, n1, n2, kr, Nat.add_zero, go_sem]
 have e1 : ((s.length : Int) - ((9 : Nat) : Int)).tdiv 2 = (resetN s : Int) := by
  have : ((s.length : Int) - ((9 : Nat) : Int)) = ((s.length - 9 : Nat) : Int) := by omega
  rw [this, Int.tdiv_eq_ediv_of_nonneg (by omega)]
  simp [resetN]
 have hb : 9 + 2 * resetN s ≤ s.length := by unfold resetN; omega
 simp only [e1]
 have hb2 : resetN s ≤ s.length := by omega
 refine ⟨by kernel_rfl, ⟨by omega, by omega⟩, ⟨by omega, by omega, by omega⟩, ?_⟩
 refine CallVC.same (numbers_ok r h32 s 9 2 (resetN s) (by omega) (by omega) (by omega) hl (by simp [rdB, n1])) ?_
 simp only [rdB, n1, n2, go_sem]
 refine ⟨okDyn_num (fun x => if x = r then 1 else x.i % 10000 + 100) (by simp only [numF, List.map, n2, if_true, if_false]; kernel_rfl), ?_⟩
 exact PostF.of (p := True) (v0 := .agg (askK s)) (.inr rfl) (by simp only [askK, resVal, resVals, resVal1, one, go_sem]) trivial (wk_refl _ _).1 (by rw [(wk_refl (fun _ => none) _).2]; simp) (by rfl) ⟨hr, by simp [BW, Tx.look, n1], trivial⟩ (by simp [UpdAll, keys])
theorem reset1_die {F : SF} {L : Nat} (s : List UInt8) (h1 : 1 ≤ s.length) (hs : s.length < 9) (r : Nm) (hr : r.l ≤ L) (hFr : F r = some (rdB s 1)) : DCon Tryz.prog chM 95 [.ptr r 0 0] F L [(r, .dead)] [r] := by
 refine DCon.body (cxOk (L + 1)) rfl rfl (fn := Tryz.f95) (c := Tryz.f95.body.getD .skip) (by kernel_rfl) (by rfl) (by kernel_rfl) rfl  (by simp; omega) ?_
 intro F3 hF1 hF2
 have kr : F3 r = some (rdB s 1) := (hF1 r (by simp)).trans hFr
 have n1 : ∀ k, (r = (⟨L + 1, k⟩ : Nm)) = False := nm_out hr
 have n2 : ∀ k, ((⟨L + 1, k⟩ : Nm) = r) = False := nm_out' hr
 have h32 : r.l ≤ L + 1 := by omega
 simp only [Tryz.f95, cx, go_sem, meths]
 by_cases g1 : s.length < 5
 ·refine CallVD.same rfl (number_die r h32 s 1 4 4 rfl (by omega) (by omega) (by omega) (by omega) (by omega) (by simp [rdB, kr, n1, Tx.look])) ?_
  exact .dead (ns := [r]) (by simpa using hr) (by simp [UpdAll, updH, setH, n1, n2])
 refine CallVD.live (CallVC.same (number_ok r h32 s 1 4 4 rfl (by omega) (by omega) (by omega) (by omega) (by simp [rdB, kr, n1])) ?_)
 simp only [rdB, n1, go_sem]
 by_cases g5 : s.length < 9
 ·refine CallVD.same rfl (number_die r h32 s 5 4 4 rfl (by omega) (by omega) (by omega) (by omega) (by omega) (by simp [rdB, n1, Tx.look])) ?_
  exact .dead (ns := [r]) (by simpa using hr) (by simp [UpdAll, updH, setH, n1, n2])
 omega
def resetK (s : List UInt8) : List PV :=
 if getB (s.take 1) = 1 then askK s else [.int .i64 2, .int .i64 (getB ((s.drop 1).take 4)), .int .i64 0, .int .i64 (getB ((s.drop 5).take 1)), .fs 1 []]
def resetP (s : List UInt8) : Nat := if getB (s.take 1) = 1 then 9 + 2 * resetN s else 6
def resetMin (s : List UInt8) : Nat := if getB (s.take 1) = 1 then 9 else 6
theorem reset2_ok {F : SF} (na : Nm) (ea : TypeId) (oa pa : Bool) (hc : F na = some (.rows ea 1 oa pa [[.fn (.func 95) [] []]])) (s : List UInt8) (hs : resetMin s ≤ s.length) (hl : s.length ≤ 1000000) : OfOk 97 [] [.ptr na 0 0] s (.agg (resetK s)) (resetP s) F [na] := by
 intro F' L r nx hF' hr hrd hFr
 have hcl : na.l ≤ L := hrd na (by simp)
 have hm1 : 1 ≤ s.length := by unfold resetMin at hs; split at hs <;> omega
 have hne : na ≠ r := by
  rintro rfl
  rw [hF' na (by simp), hc] at hFr
  simp [rdB] at hFr
 simp only [List.nil_append, List.cons_append]
 refine bdy Tryz.f97 (hrd := (by simp; omega)) ?_
 intro F3 hF1 hF2
 have kr : F3 r = some (rdB s 0) := (hF1 r (by simp)).trans hFr
 have kc : F3 na = some (.rows ea 1 oa pa [[.fn (.func 95) [] []]]) := (hF1 na (by simp)).trans ((hF' na (by simp)).trans hc)
 have n1 : ∀ k, (r = (⟨L + 1, k⟩ : Nm)) = False := nm_out hr
 have n2 : ∀ k, ((⟨L + 1, k⟩ : Nm) = r) = False := nm_out' hr
 have c1 : ∀ k, (na = (⟨L + 1, k⟩ : Nm)) = False := nm_out hcl
 have e1 : (na = r) = False := eq_false hne
 have h32 : r.l ≤ L + 1 := by omega
 simp only [Tryz.f97, cx, rdB, go_sem, meths]
 refine CallVC.same (number_ok r h32 s 0 1 1 rfl (by omega) (by omega) (by omega) hl (by simp [rdB, kr, n1])) ?_
 by_cases h1 : getB (s.take 1) = 1
 ·have f1 : (((getB (s.take 1) : Nat) : Int) == 1) = true := by simp [h1]
  simp only [resetMin, if_pos h1] at hs
  simp only [resetK, resetP, if_pos h1]
  simp only [f1, kc, c1, e1, List.drop_zero, rdB, n1, go_sem]
  repeat refine sd1 ?_
  refine CallVC.same (reset1_ok s hs hl r h32 (by simp [rdB, n1])) ?_
  simp only [askK, List.drop_zero, rdB, n1, n2, go_sem]
  repeat refine sd1 ?_
  exact PostF.of (p := True) (v0 := .agg [.int .i64 1, .int .i64 (getB ((s.drop 1).take 4)), .int .i64 (getB ((s.drop 5).take 4)), .int .i64 0, .fs 1 ((numsG s 9 2 (resetN s)).map eN)]) (.inr rfl) (by simp only [resVal, resVals, resVal1, one, go_sem]) trivial (wk_refl _ _).1 (by rw [(wk_refl (fun _ => none) _).2]; simp) (by rfl) ⟨hr, by simp [BW, Tx.look, n1], trivial⟩ (by simp [UpdAll, keys])
 ·have f1 : (((getB (s.take 1) : Nat) : Int) == 1) = false := eqF (by omega)
  simp only [resetMin, if_neg h1] at hs
  simp only [resetK, resetP, if_neg h1]
  simp only [f1, List.drop_zero, rdB, n1, go_sem]
  refine CallVC.same (number_ok r h32 s 1 4 4 rfl (by omega) (by omega) (by omega) hl (by simp [rdB, n1])) ?_
  simp only [rdB, n1, go_sem]
  refine CallVC.same (number_ok r h32 s 5 1 1 rfl (by omega) (by omega) (by omega) hl (by simp [rdB, n1])) ?_
  simp only [List.drop_zero, rdB, n1, n2, go_sem]
  repeat refine sd1 ?_
  exact PostF.of (p := True) (v0 := .agg [.int .i64 2, .int .i64 (getB ((s.drop 1).take 4)), .int .i64 0, .int .i64 (getB ((s.drop 5).take 1)), .nilS]) (.inr rfl) (by simp only [resVal, resVals, resVal1, one, go_sem]) trivial (by simp [Wk, WkL]) (by simp [wkN, wkNL]) (by rfl) ⟨hr, by simp [BW, Tx.look, n1], trivial⟩ (by simp [UpdAll, keys])
theorem reset2_die {F : SF} (na : Nm) (ea : TypeId) (oa pa : Bool) (hc : F na = some (.rows ea 1 oa pa [[.fn (.func 95) [] []]])) (s : List UInt8) (hs : s.length < resetMin s) (hl : s.length ≤ 1000000) : OfDie 97 [] [.ptr na 0 0] s F [na] := by
 intro F' L r hF' hr hrd hFr
 have hcl : na.l ≤ L := hrd na (by simp)
 have hne : na ≠ r := by
  rintro rfl
  rw [hF' na (by simp), hc] at hFr
  simp [rdB] at hFr
 simp only [List.nil_append, List.cons_append]
 refine DCon.body (cxOk (L + 1)) rfl rfl (fn := Tryz.f97) (c := Tryz.f97.body.getD .skip) (by kernel_rfl) (by rfl) (by kernel_rfl) rfl  (by simp; omega) ?_
 intro F3 hF1 hF2
 have kr : F3 r = some (rdB s 0) := (hF1 r (by simp)).trans hFr
 have kc : F3 na = some (.rows ea 1 oa pa [[.fn (.func 95) [] []]]) := (hF1 na (by simp)).trans ((hF' na (by simp)).trans hc)
 have n1 : ∀ k, (r = (⟨L + 1, k⟩ : Nm)) = False := nm_out hr
 have n2 : ∀ k, ((⟨L + 1, k⟩ : Nm) = r) = False := nm_out' hr
 have c1 : ∀ k, (na = (⟨L + 1, k⟩ : Nm)) = False := nm_out hcl
 have e1 : (na = r) = False := eq_false hne
 have h32 : r.l ≤ L + 1 := by omega
 simp only [Tryz.f97, cx, go_sem, meths]
 by_cases h0 : s.length < 1
 ·refine CallVD.same rfl (number_die r h32 s 0 1 1 rfl (by omega) (by omega) (by omega) (by omega) (by omega) (by simp [rdB, kr, n1, Tx.look])) ?_
  exact .dead (ns := [r]) (by simpa using hr) (by simp [UpdAll, updH, setH, n1, n2])
 refine CallVD.live (CallVC.same (number_ok r h32 s 0 1 1 rfl (by omega) (by omega) (by omega) hl (by simp [rdB, kr, n1])) ?_)
 by_cases h1 : getB (s.take 1) = 1
 ·have f1 : (((getB (s.take 1) : Nat) : Int) == 1) = true := by simp [h1]
  simp only [resetMin, if_pos h1] at hs
  simp only [f1, kc, c1, e1, List.drop_zero, rdB, n1, go_sem]
  repeat refine sd1 ?_
  refine CallVD.same rfl (reset1_die s (by omega) hs r h32 (by simp [rdB, n1, Tx.look])) ?_
  exact .dead (ns := [r]) (by simpa using hr) (by simp [UpdAll, updH, setH, n1, n2])
 ·have f1 : (((getB (s.take 1) : Nat) : Int) == 1) = false := eqF (by omega)
  simp only [resetMin, if_neg h1] at hs
  simp only [f1, List.drop_zero, rdB, n1, go_sem]
  by_cases h5 : s.length < 5
  ·refine CallVD.same rfl (number_die r h32 s 1 4 4 rfl (by omega) (by omega) (by omega) (by omega) (by omega) (by simp [rdB, n1, Tx.look])) ?_
   exact .dead (ns := [r]) (by simpa using hr) (by simp [UpdAll, updH, setH, n1, n2])
  refine CallVD.live (CallVC.same (number_ok r h32 s 1 4 4 rfl (by omega) (by omega) (by omega) hl (by simp [rdB, n1])) ?_)
  simp only [rdB, n1, go_sem]
  refine CallVD.same rfl (number_die r h32 s 5 1 1 rfl (by omega) (by omega) (by omega) (by omega) (by omega) (by simp [rdB, n1, Tx.look])) ?_
  exact .dead (ns := [r]) (by simpa using hr) (by simp [UpdAll, updH, setH, n1, n2])
theorem con_rds {P : Program} {f : FuncId} {args : List PV} {F : SF} {L nx top : Nat} {v : PV} {upd : List (Nm × SBlk)} {rd rd' : List Nm} (h : Con P f args F L nx top v upd rd) (hs : ∀ n ∈ rd, n ∈ rd') : Con P f args F L nx top v upd rd' :=
 ⟨h.1, fun F2 h2 => h.2 F2 fun n hn => h2 n (hs n hn)⟩
def datG (c : Ckx) : Dat := ⟨getB (c.bd.take 4), getB ((c.bd.drop 4).take 2), getB ((c.bd.drop 6).take 2), getB ((c.bd.drop 8).take 4), decide (Sx.ibits .and .i64 c.fl 2 > 0), decide (Sx.ibits .and .i64 c.fl 1 > 0), decide (Sx.ibits .and .i64 c.fl 4 > 0), c.bd.drop 12⟩
def datOk (c : Ckx) : Bool := decide (12 ≤ c.bd.length) && ((datG c).ok && (decide (flD (datG c).la (datG c).fi (datG c).lo 3 = c.fl) && decide (dataB (datG c) = c.bd)))
def zDat : Dat := ⟨0, 0, 0, 0, false, false, false, []⟩
def getDatV (c : Ckx) : PV := if c.kd = 0 then (if datOk c then .tup [.agg (datG c).row, .int .i64 0] else .tup [.agg zDat.row, .int .i64 5]) else .tup [.agg zDat.row, .int .i64 2]
theorem getDataT_ok {F : SF} {L nx : Nat} (c : Ckx) (hl : c.bd.length ≤ 1000000) : Con Tryz.prog 43 [.agg c.row] F L nx nx (getDatV c) [] [] := by
 have hcall : ∀ (F : SF) (L nx : Nat) (nc : Nm) (oc : Bool), nc.l ≤ L → F nc = some (.rows 34 3 oc true [c.row]) → Con Tryz.prog 84 [.agg c.row, .fn (.func 85) [] [.ptr nc 0 0], .fn (.func 21) [] [], .fs 1 ([0].map eI)] F L nx nx (getDatV c) [] [nc] := by
  intro F L nx nc oc hn hF
  obtain ⟨k, fl, s⟩ := c
  simp only [Ckx.row] at hF hl ⊢
  unfold getDatV
  by_cases hk : k = 0
  ·subst hk
   have hk1 : (([0] : List Int).any fun x => (0 : Int) == x) = true := rfl
   rw [if_pos rfl]
   have hP : PutOk 21 (datG ⟨0, fl, s⟩).row (if (datG ⟨0, fl, s⟩).ok then 0 else 0) (if (datG ⟨0, fl, s⟩).ok then flD (datG ⟨0, fl, s⟩).la (datG ⟨0, fl, s⟩).fi (datG ⟨0, fl, s⟩).lo 3 else 0) (if (datG ⟨0, fl, s⟩).ok then dataB (datG ⟨0, fl, s⟩) else []) (if (datG ⟨0, fl, s⟩).ok then 0 else 320) := by
    intro F L nx
    have h := putData_ok (F := F) (L := L) (nx := nx) (datG ⟨0, fl, s⟩)
    cases hb : (datG ⟨0, fl, s⟩).ok with
    | true => rw [hb] at h; simpa using h
    | false => rw [hb] at h; simpa using h
   by_cases h12 : 12 ≤ s.length
   ·have hO := data1_ok (F := F) nc 0 fl s s oc hF h12 hl
    rw [show datK fl s = (datG ⟨0, fl, s⟩).row from rfl] at hO
    cases hd : datOk ⟨0, fl, s⟩ with
    | true =>
     rw [if_pos rfl]
     unfold datOk at hd
     simp only [Bool.and_eq_true, decide_eq_true_eq] at hd
     obtain ⟨_, q1, q2, q3⟩ := hd
     rw [q1] at hP
     simp only [if_true, q2, q3] at hP
     exact getData_ok s hl 0 fl 85 21 [] [.ptr nc 0 0] [0] hk1 (by simp) _ rfl rfl [nc] (by simpa using hn) hO hP
    | false =>
     rw [if_neg (by simp)]
     refine getData_bad s hl 0 fl 85 21 [] [.ptr nc 0 0] [0] hk1 (by simp) [nc] (by simpa using hn) (.inr (.inr ⟨_, _, _, _, _, rfl, rfl, hO, hP, ?_⟩))
     rintro ⟨r1, r2, r3, r4⟩
     cases hb : (datG ⟨0, fl, s⟩).ok with
     | false => rw [hb] at r1; simp at r1
     | true =>
      rw [hb] at r3 r4
      simp only [if_true] at r3 r4
      unfold datOk at hd
      simp only [hb, r3, r4, h12, decide_true, Bool.and_true] at hd
      cases hd
   ·have hd : datOk ⟨0, fl, s⟩ = false := by unfold datOk; rw [decide_eq_false (show ¬ 12 ≤ (Ckx.mk 0 fl s).bd.length from h12)]; rfl
    rw [hd, if_neg (by simp)]
    exact getData_bad s hl 0 fl 85 21 [] [.ptr nc 0 0] [0] hk1 (by simp) [nc] (by simpa using hn) (.inl (data1_die nc s (by omega)))
  ·rw [if_neg hk]
   exact con_rds (getData_kind s k fl 85 21 [] [.ptr nc 0 0] [0] (by simpa using hk) (by simp)) (by simp)
 have hv : ∃ d e, getDatV c = .tup [.agg (Dat.row d), .int .i64 e] := by
  unfold getDatV
  split
  ·split
   ·exact ⟨_, _, rfl⟩
   ·exact ⟨_, _, rfl⟩
  ·exact ⟨_, _, rfl⟩
 obtain ⟨d, e, hv⟩ := hv
 rw [hv] at hcall ⊢
 simp only [Ckx.row, Dat.row] at hcall ⊢
 refine bdy Tryz.f43 ?_
 intro F3 hF1 hF2
 simp only [Tryz.f43, cx, go_sem, meths]
 repeat refine sd2 ?_
 refine CallVC.gen (args2 := [.agg [.int .i64 c.kd, .int .i64 c.fl, .str c.bd], .fn (.func 85) [] [.ptr ⟨L + 1, 0⟩ 0 0], .fn (.func 21) [] [], .fs 1 ([0].map eI)]) (by simp [WkL, Wk, eI]) (hcall _ _ _ ⟨L + 1, 0⟩ true (by simp) (by simp [wkNL, wkN, unown, SF.upd, SF.set])) ?_
 simp only [wkNL, wkN, unown, go_sem]
 repeat refine sd2 ?_
 exact PostF.same (p := True) (.inr rfl) (by simp only [resVal, resVals, resVal1, one, go_sem]) trivial (by simp [Tx.nf, nfl]) (by simp [UpdAll])
def iniG (c : Ckx) : Ini := ⟨getB (c.bd.take 4), getB ((c.bd.drop 4).take 4), getB ((c.bd.drop 8).take 2), getB ((c.bd.drop 10).take 2), getB ((c.bd.drop 12).take 4), c.bd.drop 16⟩
def iniOk (c : Ckx) : Bool := decide (16 ≤ c.bd.length) && ((iniG c).ok && (decide (iniK (iniG c).ck = c.kd) && (decide ((0 : Int) = c.fl) && decide ((iniG c).oct = c.bd))))
def zIni : Ini := ⟨0, 0, 0, 0, 0, []⟩
def getIniV (c : Ckx) : PV := if c.kd = 1 ∨ c.kd = 2 then (if iniOk c then .tup [.agg (iniG c).row, .int .i64 0] else .tup [.agg zIni.row, .int .i64 5]) else .tup [.agg zIni.row, .int .i64 2]
theorem getInitT_ok {F : SF} {L nx : Nat} (c : Ckx) (hl : c.bd.length ≤ 1000000) : Con Tryz.prog 44 [.agg c.row] F L nx nx (getIniV c) [] [] := by
 have hcall : ∀ (F : SF) (L nx : Nat), Con Tryz.prog 87 [.agg c.row, .fn (.func 88) [] [], .fn (.func 30) [] [], .fs 1 ([1, 2].map eI)] F L nx nx (getIniV c) [] [] := by
  intro F L nx
  obtain ⟨k, fl, s⟩ := c
  simp only [Ckx.row] at hl ⊢
  unfold getIniV
  by_cases hk : k = 1 ∨ k = 2
  ·have hk1 : (([1, 2] : List Int).any fun x => k == x) = true := by simpa using hk
   rw [if_pos hk]
   obtain ⟨d, hdd⟩ : ∃ d, d = iniG ⟨k, fl, s⟩ := ⟨_, rfl⟩
   rw [← hdd]
   have hP : PutOk 30 d.row (if d.ok then iniK d.ck else 0) 0 (if d.ok then d.oct else []) (if d.ok then 0 else 320) := by
    intro F L nx
    have h := putInit_ok (F := F) (L := L) (nx := nx) d
    cases hb : d.ok with
    | true => rw [hb] at h; simpa using h
    | false => rw [hb] at h; simpa using h
   by_cases h12 : 16 ≤ s.length
   ·have hO := init1_ok (F := F) s h12 hl
    rw [show initK s = d.row by rw [hdd]; rfl] at hO
    cases hd : iniOk ⟨k, fl, s⟩ with
    | true =>
     rw [if_pos rfl]
     unfold iniOk at hd
     rw [← hdd] at hd
     simp only [Bool.and_eq_true, decide_eq_true_eq] at hd
     obtain ⟨_, q1, q2, q3, q4⟩ := hd
     rw [q1] at hP
     simp only [if_true, q2, q4] at hP
     subst q3
     exact getInit_ok s hl k 0 88 30 [] [] [1, 2] hk1 (by simp) _ rfl rfl [] (by simp) hO hP
    | false =>
     rw [if_neg (by simp)]
     refine getInit_bad s hl k fl 88 30 [] [] [1, 2] hk1 (by simp) [] (by simp) (.inr (.inr ⟨_, _, _, _, _, rfl, rfl, hO, hP, ?_⟩))
     rintro ⟨r1, r2, r3, r4⟩
     cases hb : d.ok with
     | false => rw [hb] at r1; simp at r1
     | true =>
      rw [hb] at r2 r4
      simp only [if_true] at r2 r4
      unfold iniOk at hd
      rw [← hdd] at hd
      simp only [hb, r2, r3, r4, h12, decide_true, Bool.and_true] at hd
      cases hd
   ·have hd : iniOk ⟨k, fl, s⟩ = false := by unfold iniOk; rw [decide_eq_false (show ¬ 16 ≤ (Ckx.mk k fl s).bd.length from h12)]; rfl
    rw [hd, if_neg (by simp)]
    exact getInit_bad s hl k fl 88 30 [] [] [1, 2] hk1 (by simp) [] (by simp) (.inl (init1_die s (by omega)))
  ·rw [if_neg hk]
   exact getInit_kind s k fl 88 30 [] [] [1, 2] (by simpa using hk) (by simp)
 have hv : ∃ d e, getIniV c = .tup [.agg (Ini.row d), .int .i64 e] := by
  unfold getIniV
  split
  ·split
   ·exact ⟨_, _, rfl⟩
   ·exact ⟨_, _, rfl⟩
  ·exact ⟨_, _, rfl⟩
 obtain ⟨d, e, hv⟩ := hv
 rw [hv] at hcall ⊢
 simp only [Ckx.row, Ini.row] at hcall ⊢
 refine bdy Tryz.f44 ?_
 intro F3 hF1 hF2
 simp only [Tryz.f44, cx, go_sem, meths]
 repeat refine sd2 ?_
 refine CallVC.gen (args2 := [.agg [.int .i64 c.kd, .int .i64 c.fl, .str c.bd], .fn (.func 88) [] [], .fn (.func 30) [] [], .fs 1 ([1, 2].map eI)]) (by simp [WkL, Wk, eI]) (hcall _ _ _) ?_
 simp only [wkNL, wkN, unown, go_sem]
 repeat refine sd2 ?_
 exact PostF.same (p := True) (.inr rfl) (by simp only [resVal, resVals, resVal1, one, go_sem]) trivial (by simp [Tx.nf, nfl]) (by simp [UpdAll])
structure Skx where
 cum : Int
 win : Int
 gs : List (Int × Int)
 ds : List Int
def Skx.v (d : Skx) : PV := sackP d.cum d.win d.gs d.ds
def Skx.ok (d : Skx) : Bool := sackV d.cum d.win d.gs d.ds
def Skx.oct (d : Skx) : List UInt8 := sackO d.cum d.win d.gs d.ds
def sckG (c : Ckx) : Skx := ⟨getB (c.bd.take 4), getB ((c.bd.drop 4).take 4), (pairsG c.bd 12 (sackG c.bd)).map kN, (numsG c.bd (12 + 4 * sackG c.bd) 4 (sackD c.bd)).map fun x : Nat => (x : Int)⟩
theorem sckG_row (c : Ckx) : PV.agg (sackK c.bd) = (sckG c).v := by
 simp only [sackK, sckG, Skx.v, sackP, List.map_map]
 congr 2
def sckN (s : List UInt8) : Nat := 12 + 4 * sackG s + 4 * sackD s
def sckOk (c : Ckx) : Bool := decide (sckN c.bd = c.bd.length) && ((sckG c).ok && (decide ((0 : Int) = c.fl) && decide ((sckG c).oct = c.bd)))
def zSck (e : Int) : PV := .tup [.agg [.int .i64 0, .int .i64 0, .nilS, .nilS], .int .i64 e]
def getSckV (c : Ckx) : PV := if c.kd = 3 then (if sckOk c then .tup [(sckG c).v, .int .i64 0] else zSck 5) else zSck 2
theorem getSackT_ok {F : SF} {L nx : Nat} (c : Ckx) (hl : c.bd.length ≤ 1000000) : Con Tryz.prog 45 [.agg c.row] F L nx nx (getSckV c) [] [] := by
 have hcall : ∀ (F : SF) (L nx : Nat), Con Tryz.prog 89 [.agg c.row, .fn (.func 90) [] [], .fn (.func 26) [] [], .fs 1 ([3].map eI)] F L nx nx (getSckV c) [] [] := by
  intro F L nx
  obtain ⟨k, fl, s⟩ := c
  simp only [Ckx.row] at hl ⊢
  unfold getSckV
  by_cases hk : k = 3
  ·have hk1 : (([3] : List Int).any fun x => k == x) = true := by simpa using hk
   rw [if_pos hk]
   obtain ⟨d, hdd⟩ : ∃ d, d = sckG ⟨k, fl, s⟩ := ⟨_, rfl⟩
   rw [← hdd]
   have hrow : PV.agg (sackK s) = d.v := by rw [hdd]; exact sckG_row ⟨k, fl, s⟩
   have hG : sackG s < 65536 := getB2 s 8
   have hD : sackD s < 65536 := getB2 s 10
   have hP : PutOk 26 (sackK s) (if d.ok then 3 else 0) 0 (if d.ok then d.oct else []) (if d.ok then 0 else 320) := by
    intro F L nx
    have h := putSack_ok (F := F) (L := L) (nx := nx) d.cum d.win d.gs d.ds (by rw [hdd]; simp [sckG, pairsG_len]; omega) (by rw [hdd]; simp [sckG, numsG_len]; omega)
    rw [hrow]
    have e : sackV d.cum d.win d.gs d.ds = d.ok := rfl
    rw [e] at h
    cases hb : d.ok with
    | true => rw [hb] at h; simp only [if_true] at h ⊢; exact h
    | false => rw [hb] at h; simp only [if_false, Bool.false_eq_true] at h ⊢; exact h
   by_cases h12 : s.length < sckN s ∨ s.length < 12
   ·have hd : sckOk ⟨k, fl, s⟩ = false := by
     unfold sckOk
     rw [decide_eq_false (by simp only [sckN] at h12 ⊢; omega)]; rfl
    rw [hd, if_neg (by simp)]
    exact getSack_bad s hl k fl 90 26 [] [] [3] hk1 (by simp) [] (by simp) (.inl (sack1_die s h12 hl))
   ·have hO := sack1_ok (F := F) s (by simp only [sckN] at h12; omega) hl
    by_cases hne : sckN s = s.length
    ·rw [show 12 + 4 * sackG s + 4 * sackD s = s.length from hne] at hO
     cases hd : sckOk ⟨k, fl, s⟩ with
     | true =>
      rw [if_pos rfl]
      unfold sckOk at hd
      rw [← hdd] at hd
      simp only [Bool.and_eq_true, decide_eq_true_eq] at hd
      obtain ⟨_, q1, q3, q4⟩ := hd
      rw [q1] at hP
      simp only [if_true, q4] at hP
      subst q3
      subst hk
      rw [← hrow]
      exact getSack_ok s hl 3 0 90 26 [] [] [3] hk1 (by simp) _ rfl rfl [] (by simp) hO hP
     | false =>
      rw [if_neg (by simp)]
      refine getSack_bad s hl k fl 90 26 [] [] [3] hk1 (by simp) [] (by simp) (.inr (.inr ⟨_, _, _, _, _, rfl, rfl, hO, hP, ?_⟩))
      rintro ⟨r1, r2, r3, r4⟩
      cases hb : d.ok with
      | false => rw [hb] at r1; simp at r1
      | true =>
       rw [hb] at r2 r4
       simp only [if_true] at r2 r4
       unfold sckOk at hd
       rw [← hdd] at hd
       simp only [hb, r3, r4, hne, decide_true, Bool.and_true] at hd
       cases hd
    ·have hd : sckOk ⟨k, fl, s⟩ = false := by
      unfold sckOk
      rw [decide_eq_false hne]; rfl
     rw [hd, if_neg (by simp)]
     exact getSack_bad s hl k fl 90 26 [] [] [3] hk1 (by simp) [] (by simp) (.inr (.inl ⟨_, _, rfl, rfl, hne, hO⟩))
  ·rw [if_neg hk]
   exact getSack_kind s k fl 90 26 [] [] [3] (by simpa using hk) (by simp)
 have hv : ∃ x1 x2 x3 x4 e, getSckV c = .tup [.agg [.int .i64 x1, .int .i64 x2, x3, x4], .int .i64 e] ∧ Tx.nf x3 = true ∧ Tx.nf x4 = true := by
  unfold getSckV
  split
  ·split
   ·exact ⟨_, _, _, _, _, rfl, rfl, rfl⟩
   ·exact ⟨_, _, _, _, _, rfl, rfl, rfl⟩
  ·exact ⟨_, _, _, _, _, rfl, rfl, rfl⟩
 obtain ⟨x1, x2, x3, x4, e, hv, y3, y4⟩ := hv
 rw [hv] at hcall ⊢
 simp only [Ckx.row] at hcall ⊢
 refine bdy Tryz.f45 ?_
 intro F3 hF1 hF2
 simp only [Tryz.f45, cx, go_sem, meths]
 repeat refine sd2 ?_
 refine CallVC.gen (args2 := [.agg [.int .i64 c.kd, .int .i64 c.fl, .str c.bd], .fn (.func 90) [] [], .fn (.func 26) [] [], .fs 1 ([3].map eI)]) (by simp [WkL, Wk, eI]) (hcall _ _ _) ?_
 simp only [wkNL, wkN, unown, go_sem]
 repeat refine sd2 ?_
 exact PostF.same (p := True) (.inr rfl) (by simp only [resVal, resVals, resVal1, one, go_sem]) trivial (by simp [Tx.nf, nfl, y3, y4]) (by simp [UpdAll])
def e2 (x : Nat × Nat) : List PV := [.int .u8 x.1, .int .u8 x.2]
structure Pcx where
 w : Nat
 a : Nat
 b : Nat
 c : Nat
 d : Nat
 l : List (Nat × Nat)
 pl : List UInt8
def Pcx.row (p : Pcx) : List PV := [.int .u8 p.w, .int .u32 p.a, .int .u32 p.b, .int .u32 p.c, .int .u32 p.d, .fs 2 (p.l.map e2), .str p.pl]
structure Pcx.Ok (p : Pcx) : Prop where
 w : p.w < 256
 a : p.a < 4294967296
 b : p.b < 4294967296
 c : p.c < 4294967296
 d : p.d < 4294967296
 l : ∀ x ∈ p.l, x.1 < 256 ∧ x.2 < 256
 ll : p.l.length ≤ maxLen
 pl : p.pl.length ≤ maxLen
def Pcx.lo (p : Pcx) : Bool := decide (0 < Go.Sx.ibits .and .u8 p.w 32)
def Pcx.m8 (p : Pcx) : Bool := decide (0 < Go.Sx.ibits .and .u8 p.w 8)
def Pcx.dat (p : Pcx) : Dat := ⟨p.a, ((p.b % 65536 : Nat) : Int), if p.lo then 0 else ((p.c % 65536 : Nat) : Int), p.d, p.m8, decide (0 < Go.Sx.ibits .and .u8 p.w 16), p.lo, someX p.pl 100⟩
theorem tmL (a : Nat) (n : Int) (hn : 0 < n) : ((a : Int).tmod n) = ((a % n.toNat : Nat) : Int) := by
 rw [Int.tmod_eq_emod_of_nonneg (by omega)]
 have : n = (n.toNat : Int) := by omega
 rw [this, ← Int.natCast_emod]
 simp
theorem tdL (a : Nat) (n : Int) (hn : 0 < n) : ((a : Int).tdiv n) = ((a / n.toNat : Nat) : Int) := by
 rw [Int.tdiv_eq_ediv_of_nonneg (by omega)]
 have : n = (n.toNat : Int) := by omega
 rw [this, ← Int.natCast_ediv]
 simp
theorem pData_ok {F : SF} {L nx : Nat} (p : Pcx) (hp : p.Ok) : Con Tryz.prog 20 [.agg p.row] F L nx nx (.agg p.dat.row) [] [] := by
 obtain ⟨hw, ha, hb, hc, hd, hl, hll, hpl⟩ := hp
 have tb : (p.b : Int).tmod 65536 = ((p.b % 65536 : Nat) : Int) := tmL p.b 65536 (by omega)
 have tc : (p.c : Int).tmod 65536 = ((p.c % 65536 : Nat) : Int) := tmL p.c 65536 (by omega)
 refine bdy Tryz.f20 ?_
 intro F3 hF1 hF2
 cases hlo : p.lo with
 | true =>
  have k1 : decide (0 < Go.Sx.ibits .and .u8 p.w 32) = true := hlo
  simp only [Tryz.f20, cx, Pcx.row, k1, tb, tc, Nat.add_zero, go_sem, meths]
  repeat refine sd2 ?_
  refine CallVC.same (rSome_ok p.pl 100 _ rfl hpl) ?_
  simp only [go_sem]
  refine ⟨okDyn_num (fun x => x.i) (by kernel_rfl), ?_⟩
  exact PostF.same (p := True) (.inr rfl) (by simp only [Dat.row, Pcx.dat, Pcx.m8, hlo, resVal, resVals, resVal1, one, go_sem]; try rfl) trivial (by simp [Dat.row, Tx.nf, nfl]) (by simp [UpdAll])
 | false =>
  have k1 : decide (0 < Go.Sx.ibits .and .u8 p.w 32) = false := hlo
  simp only [Tryz.f20, cx, Pcx.row, k1, tb, tc, Nat.add_zero, go_sem, meths]
  repeat refine sd2 ?_
  refine CallVC.same (rSome_ok p.pl 100 _ rfl hpl) ?_
  simp only [go_sem]
  refine ⟨okDyn_num (fun x => x.i) (by kernel_rfl), ?_⟩
  exact PostF.same (p := True) (.inr rfl) (by simp only [Dat.row, Pcx.dat, Pcx.m8, hlo, resVal, resVals, resVal1, one, go_sem]; try rfl) trivial (by simp [Dat.row, Tx.nf, nfl]) (by simp [UpdAll])
def Pcx.ini (p : Pcx) (ck : Bool) : Ini := ⟨max 1 (p.a : Int), p.b, 1 + ((p.c % 65535 : Nat) : Int), 1 + ((p.c / 65536 % 65535 : Nat) : Int), p.d, if ck then someX p.pl 200 else []⟩
theorem pInit_ok {F : SF} {L nx : Nat} (p : Pcx) (hp : p.Ok) (ck : Bool) : Con Tryz.prog 29 [.agg p.row, .bool ck] F L nx nx (.agg (p.ini ck).row) [] [] := by
 obtain ⟨hw, ha, hb, hc, hd, hl, hll, hpl⟩ := hp
 have tb : (p.c : Int).tmod 65535 = ((p.c % 65535 : Nat) : Int) := tmL p.c 65535 (by omega)
 have tc : (p.c : Int).tdiv 65536 = ((p.c / 65536 : Nat) : Int) := tdL p.c 65536 (by omega)
 have tw : IntKind.u32.wrap ((p.c / 65536 : Nat) : Int) = ((p.c / 65536 : Nat) : Int) := by rw [IntKind.wrap_u32]; omega
 have td : ((p.c / 65536 : Nat) : Int).tmod 65535 = ((p.c / 65536 % 65535 : Nat) : Int) := tmL (p.c / 65536) 65535 (by omega)
 refine bdy Tryz.f29 ?_
 intro F3 hF1 hF2
 cases ck with
 | true =>
  simp only [Tryz.f29, cx, Pcx.row, tb, tc, tw, td, Nat.add_zero, go_sem, meths]
  repeat refine sd2 ?_
  refine CallVC.same (rSome_ok p.pl 200 _ rfl hpl) ?_
  simp only [go_sem]
  repeat refine sd2 ?_
  exact PostF.same (p := True) (.inr rfl) (by simp only [Ini.row, Pcx.ini, resVal, resVals, resVal1, one, go_sem]; try rfl) trivial (by simp [Ini.row, Tx.nf, nfl]) (by simp [UpdAll])
 | false =>
  simp only [Tryz.f29, cx, Pcx.row, tb, tc, tw, td, Nat.add_zero, go_sem, meths]
  repeat refine sd2 ?_
  exact PostF.same (p := True) (.inr rfl) (by simp only [Ini.row, Pcx.ini, resVal, resVals, resVal1, one, go_sem]; try rfl) trivial (by simp [Ini.row, Tx.nf, nfl]) (by simp [UpdAll])
def Pcx.x (p : Pcx) (i : Nat) : Nat × Nat := p.l.getD i (0, 0)
def Pcx.fa (p : Pcx) : Nat → Nat
 | 0 => p.b % 50000
 | i + 1 => p.fa i + 1 + (p.x i).2
def Pcx.sk (p : Pcx) (i : Nat) : List (Nat × Nat) := (List.range i).map fun j => (p.fa j, (p.x j).1 * (p.x j).2)
def Pcx.n (p : Pcx) : Nat := min p.l.length 30
theorem Pcx.sk_succ (p : Pcx) (i : Nat) : p.sk (i + 1) = p.sk i ++ [(p.fa i, (p.x i).1 * (p.x i).2)] := by simp [Pcx.sk, List.range_succ]
theorem Pcx.sk_len (p : Pcx) (i : Nat) : (p.sk i).length = i := by simp [Pcx.sk]
theorem Pcx.Ok.x {p : Pcx} (h : p.Ok) (i : Nat) : (p.x i).1 < 256 ∧ (p.x i).2 < 256 := by
 unfold Pcx.x
 rw [List.getD_eq_getElem?_getD]
 cases hi : p.l[i]? with
 | none => simp
 | some y => simpa using h.l y (List.mem_of_getElem? hi)
theorem Pcx.row_at {p : Pcx} {i : Nat} (h : i < p.l.length) : (p.l.map e2).getD i [] = [.int .u8 (p.x i).1, .int .u8 (p.x i).2] := by
 simp [Pcx.x, e2, List.getD_eq_getElem?_getD, h]
theorem Pcx.fa_le {p : Pcx} (h : p.Ok) : ∀ i, p.fa i ≤ 49999 + 256 * i
 | 0 => by simp only [Pcx.fa]; omega
 | i + 1 => by have := Pcx.fa_le h i; have := (h.x i).2; simp only [Pcx.fa]; omega
theorem pForward_ok {F : SF} {L nx : Nat} (p : Pcx) (hp : p.Ok) : Con Tryz.prog 33 [.agg p.row] F L nx nx (fwdP p.a ((p.sk p.n).map kN)) [] [] := by
 have hx := hp.x
 have hfa := Pcx.fa_le hp
 obtain ⟨hw, ha, hb, hc, hd, hl, hll, hpl⟩ := hp
 have tb : (p.b : Int).tmod 50000 = ((p.b % 50000 : Nat) : Int) := tmL p.b 50000 (by omega)
 refine bdy Tryz.f33 ?_
 intro F3 hF1 hF2
 simp only [Tryz.f33, cx, Pcx.row, tb, Nat.add_zero, go_sem, meths]
 repeat refine sd2 ?_
 refine loopK.intro _ _ (I := fun z : Nat × Nat => ⟨[none, some (.ptr ⟨L + 1, 0⟩ 0 0), some (.ptr ⟨L + 1, 32⟩ 0 0), some (.ptr ⟨L + 1, 224⟩ 0 0), some (.int .i64 (p.fa z.1)), some (.int .i64 z.1)] ++ oz 54,
  [(⟨L + 1, 0⟩, .rows 65 7 true true [p.row]), (⟨L + 1, 32⟩, .rows 59 2 true true [[.int .i64 0, .nilS]]), (⟨L + 1, 224⟩, .rows 59 2 true false [[.int .i64 p.a, .sl ⟨L + 1, z.2⟩ 0 z.1]]), (⟨L + 1, z.2⟩, .rows 118 2 true true (((p.sk z.1).map kN).map kE))], 10000 * (z.1 + 1)⟩)
  (pre := fun z => z.1 ≤ p.n ∧ 512 ≤ z.2 ∧ z.2 < 10000 * (z.1 + 1)) (μ := fun z => p.n - z.1) (0, 512) ⟨by simp, by simp, by simp⟩ ?_ ?_
 ·refine Sub.trans (Sub.nilCell (n := ⟨L + 1, 224⟩) (e := 59) (e2 := 118) (wd := 2) (wd2 := 2) (o := true) (p := true) (row := [.int .i64 p.a, .nilS]) (row1 := [.int .i64 p.a, .sl ⟨L + 1, 512⟩ 0 0]) (by omega) (by simp [Tx.look]) (by simp) rfl ?_) ?_
  ·intro k
   rcases k with _ | _ | k
   ·exact .inl rfl
   ·exact .inr ⟨rfl, rfl⟩
   ·exact .inl rfl
  ·refine Sub.of (hfz hF2) (by simp only [Pcx.fa, go_sem, subT, and_self, Int.natCast_zero]; try trivial) ?_ ?_ ?_
   ·simp [subH, Tx.look, updH, setH, Pcx.sk, Pcx.row]
   ·simp [subK, keys, updH, setH]
   ·simp
 ·rintro ⟨i, q⟩ ⟨hi, hq0, hq⟩
  simp only at hi hq0 hq ⊢
  have hln := p.sk_len i
  have hb9 := hfa i
  have hx9 := hx i
  have q_0 : (q = 0) = False := by apply eq_false; omega
  have n0_q : (0 = q) = False := by apply eq_false; omega
  have q_32 : (q = 32) = False := by apply eq_false; omega
  have n32_q : (32 = q) = False := by apply eq_false; omega
  have q_224 : (q = 224) = False := by apply eq_false; omega
  have n224_q : (224 = q) = False := by apply eq_false; omega
  obtain ⟨q_n1, q_n2, q_n3, q_n4, q_n5⟩ := nqL L (i := i) (p := q) (by omega)
  by_cases hlt : i < p.n
  ·have hn := hlt
   unfold Pcx.n at hn
   have f1 : decide ((i : Int) < (p.l.length : Int)) = true := dT (by omega)
   have f2 : decide ((i : Int) < 30) = true := dT (by omega)
   have r0 := Pcx.row_at (p := p) (i := i) (by omega)
   obtain ⟨y, hy⟩ : ∃ y, y = p.x i := ⟨_, rfl⟩
   rw [← hy] at r0 hx9
   have hm : y.1 * y.2 ≤ 255 * 255 := Nat.mul_le_mul (by omega) (by omega)
   have e1 : (y.1 : Int) * (y.2 : Int) = ((y.1 * y.2 : Nat) : Int) := (Int.natCast_mul _ _).symm
   have e2 : (p.fa i : Int) + 1 + (y.2 : Int) = ((p.fa (i + 1) : Nat) : Int) := by rw [hy]; simp only [Pcx.fa]; omega
   have e3 : p.sk (i + 1) = p.sk i ++ [(p.fa i, y.1 * y.2)] := by rw [hy]; exact p.sk_succ i
   simp only [f1, f2, r0, e1, Pcx.row, List.length_map, q_0, n0_q, q_32, q_224, n224_q, q_n1, q_n2, q_n5, kS2, kS2', kS3, Nat.add_assoc, Nat.add_zero, go_sem]
   refine ⟨by kernel_rfl, ?_⟩
   repeat refine sd2 ?_
   refine ⟨okDyn_num (fun x => if x.i = q then 1 else x.i % 10000 + 100) (by simp only [numF, List.map, n0_q, n224_q, q_n1, if_true, if_false, Nat.mul_add_mod, Nat.reduceMod]; kernel_rfl), ?_⟩
   repeat refine sd2 ?_
   refine ⟨(i + 1, 10000 * (i + 1) + 928), ⟨by simp only []; omega, by simp only []; omega, by simp only []; omega⟩, by simp only []; omega, ?_⟩
   refine Sub.of (hfz hF2) (by simp only [e2, go_sem, subT, and_self, Int.natCast_succ]) ?_ (by simp [subK, keys]) (by simp only []; omega)
   simp [subH, Tx.look, e3, kN, kE, q_n1, nB, kS2]
  ·have hin : i = p.n := by omega
   subst hin
   by_cases h30 : p.n < p.l.length
   ·have f1 : decide ((p.n : Int) < (p.l.length : Int)) = true := dT (by omega)
    have hn : p.n = 30 := by unfold Pcx.n at h30 ⊢; omega
    have f2 : decide ((p.n : Int) < 30) = false := dF (by omega)
    simp only [f1, f2, Pcx.row, List.length_map, n0_q, n32_q, n224_q, Nat.add_assoc, go_sem]
    repeat refine sd2 ?_
    exact PostF.of (p := True) (v0 := .agg [.int .i64 p.a, .sl ⟨L + 1, q⟩ 0 p.n]) (.inr rfl) (by simp only [resVal, resVals, resVal1, one, n32_q, go_sem]) trivial (by simp [fwdP, Wk, WkL, Tx.look, hln, List.take_of_length_le, q_0, q_32, q_224]) (by simp [fwdP, wkN, wkNL]) (by simp [fwdP, Tx.nf, nfl]) trivial (by simp [UpdAll, keys])
   ·have f1 : decide ((p.n : Int) < (p.l.length : Int)) = false := dF (by omega)
    simp only [f1, Pcx.row, List.length_map, n0_q, n32_q, n224_q, Nat.add_assoc, go_sem]
    repeat refine sd2 ?_
    exact PostF.of (p := True) (v0 := .agg [.int .i64 p.a, .sl ⟨L + 1, q⟩ 0 p.n]) (.inr rfl) (by simp only [resVal, resVals, resVal1, one, n32_q, go_sem]) trivial (by simp [fwdP, Wk, WkL, Tx.look, hln, List.take_of_length_le, q_0, q_32, q_224]) (by simp [fwdP, wkN, wkNL]) (by simp [fwdP, Tx.nf, nfl]) trivial (by simp [UpdAll, keys])
def Pcx.sa (p : Pcx) : Nat → Nat
 | 0 => p.c % 50000
 | i + 1 => p.sa i + 1 + (p.x i).1
def Pcx.ss (p : Pcx) (i : Nat) : List Int := (List.range (i + 1)).map fun j => (p.sa j : Int)
def Pcx.n9 (p : Pcx) : Nat := min p.l.length 29
theorem Pcx.ss_succ (p : Pcx) (i : Nat) : p.ss (i + 1) = p.ss i ++ [(p.sa (i + 1) : Int)] := by simp [Pcx.ss, List.range_succ]
theorem Pcx.ss_len (p : Pcx) (i : Nat) : (p.ss i).length = i + 1 := by simp [Pcx.ss]
theorem Pcx.sa_le {p : Pcx} (h : p.Ok) : ∀ i, p.sa i ≤ 49999 + 256 * i
 | 0 => by simp only [Pcx.sa]; omega
 | i + 1 => by have := Pcx.sa_le h i; have := (h.x i).1; simp only [Pcx.sa]; omega
theorem pReset1_ok {F : SF} {L nx : Nat} (p : Pcx) (hp : p.Ok) (hm : p.m8 = true) : Con Tryz.prog 37 [.agg p.row] F L nx nx (rstP 2 p.a 0 ((p.b % 256 : Nat) : Int) (.fs 1 (([] : List Int).map eI))) [] [] := by
 obtain ⟨hw, ha, hb, hc, hd, hl, hll, hpl⟩ := hp
 have tb : (p.b : Int).tmod 256 = ((p.b % 256 : Nat) : Int) := tmL p.b 256 (by omega)
 have k1 : decide (0 < Go.Sx.ibits .and .u8 p.w 8) = true := hm
 refine bdy Tryz.f37 ?_
 intro F3 hF1 hF2
 simp only [Tryz.f37, cx, Pcx.row, tb, k1, Nat.add_zero, go_sem, meths]
 repeat refine sd2 ?_
 exact PostF.of (p := True) (v0 := .agg [.int .i64 2, .int .i64 p.a, .int .i64 0, .int .i64 ((p.b % 256 : Nat) : Int), .nilS]) (.inr rfl) (by simp only [resVal, resVals, resVal1, one, go_sem]) trivial (by simp [rstP, Wk, WkL]) (by simp [rstP, wkN, wkNL]) (by simp [rstP, Tx.nf, nfl]) trivial (by simp [UpdAll, keys])
theorem pReset2_ok {F : SF} {L nx : Nat} (p : Pcx) (hp : p.Ok) (hm : p.m8 = false) : Con Tryz.prog 37 [.agg p.row] F L nx nx (rstP 1 p.a p.b 0 (.fs 1 ((p.ss p.n9).map eI))) [] [] := by
 have hx := hp.x
 have hfa := Pcx.sa_le hp
 obtain ⟨hw, ha, hb, hc, hd, hl, hll, hpl⟩ := hp
 have tc : (p.c : Int).tmod 50000 = ((p.c % 50000 : Nat) : Int) := tmL p.c 50000 (by omega)
 have k1 : decide (0 < Go.Sx.ibits .and .u8 p.w 8) = false := hm
 refine bdy Tryz.f37 ?_
 intro F3 hF1 hF2
 simp only [Tryz.f37, cx, Pcx.row, tc, k1, Nat.add_zero, go_sem, meths]
 repeat refine sd2 ?_
 refine loopK.intro _ _ (I := fun z : Nat × Nat => ⟨[none, some (.ptr ⟨L + 1, 0⟩ 0 0), some (.ptr ⟨L + 1, 32⟩ 0 0), some (.ptr ⟨L + 1, 480⟩ 0 0), some (.int .i64 (p.sa z.1)), some (.int .i64 z.1)] ++ oz 62,
  [(⟨L + 1, 0⟩, .rows 65 7 true true [p.row]), (⟨L + 1, 32⟩, .rows 61 5 true true [[.int .i64 0, .int .i64 0, .int .i64 0, .int .i64 0, .nilS]]), (⟨L + 1, 480⟩, .rows 61 5 true false [[.int .i64 1, .int .i64 p.a, .int .i64 p.b, .int .i64 0, .sl ⟨L + 1, z.2⟩ 0 (z.1 + 1)]]), (⟨L + 1, z.2⟩, .rows 3 1 true true ((p.ss z.1).map eI))], 10000 * (z.1 + 1)⟩)
  (pre := fun z => z.1 ≤ p.n9 ∧ 512 ≤ z.2 ∧ z.2 < 10000 * (z.1 + 1)) (μ := fun z => p.n9 - z.1) (0, 864) ⟨by simp, by simp, by simp⟩ ?_ ?_
 ·refine Sub.of (hfz hF2) (by simp only [Pcx.sa, go_sem, subT, and_self, Int.natCast_zero]; try trivial) ?_ ?_ ?_
  ·simp [subH, Tx.look, Pcx.ss, Pcx.sa, Pcx.row, eI]
  ·simp [subK, keys]
  ·simp
 ·rintro ⟨i, q⟩ ⟨hi, hq0, hq⟩
  simp only at hi hq0 hq ⊢
  have hln := p.ss_len i
  have hb9 := hfa i
  have hx9 := hx i
  have q_0 : (q = 0) = False := by apply eq_false; omega
  have n0_q : (0 = q) = False := by apply eq_false; omega
  have q_32 : (q = 32) = False := by apply eq_false; omega
  have n32_q : (32 = q) = False := by apply eq_false; omega
  have q_480 : (q = 480) = False := by apply eq_false; omega
  have n480_q : (480 = q) = False := by apply eq_false; omega
  obtain ⟨q_n1, q_n2, q_n3, q_n4, q_n5⟩ := nqL L (i := i) (p := q) (by omega)
  by_cases hlt : i < p.n9
  ·have hn := hlt
   unfold Pcx.n9 at hn
   have f1 : decide ((i : Int) < (p.l.length : Int)) = true := dT (by omega)
   have f2 : decide ((i : Int) < 29) = true := dT (by omega)
   have r0 := Pcx.row_at (p := p) (i := i) (by omega)
   obtain ⟨y, hy⟩ : ∃ y, y = p.x i := ⟨_, rfl⟩
   rw [← hy] at r0 hx9
   have k2 : (p.sa i : Int) + 1 + (y.1 : Int) = ((p.sa (i + 1) : Nat) : Int) := by rw [hy]; simp only [Pcx.sa]; omega
   have k3 : p.ss (i + 1) = p.ss i ++ [((p.sa (i + 1) : Nat) : Int)] := p.ss_succ i
   have hb8 := hfa (i + 1)
   simp only [f1, f2, r0, k2, Pcx.row, List.length_map, q_0, n0_q, q_32, q_480, n480_q, q_n1, q_n2, q_n5, kS2, kS2', kS3, Nat.add_assoc, Nat.add_zero, go_sem]
   repeat refine sd2 ?_
   refine ⟨(i + 1, 10000 * (i + 1) + 768), ⟨by simp only []; omega, by simp only []; omega, by simp only []; omega⟩, by simp only []; omega, ?_⟩
   refine Sub.o hF2 ?_
   simp [subH, Tx.look, k3, eI, q_n1, nB, kS2, Nat.add_assoc, Nat.reduceAdd]
  ·have hin : i = p.n9 := by omega
   subst hin
   by_cases h30 : p.n9 < p.l.length
   ·have f1 : decide ((p.n9 : Int) < (p.l.length : Int)) = true := dT (by omega)
    have hn : p.n9 = 29 := by unfold Pcx.n9 at h30 ⊢; omega
    have f2 : decide ((p.n9 : Int) < 29) = false := dF (by omega)
    simp only [f1, f2, Pcx.row, List.length_map, n0_q, n32_q, n480_q, Nat.add_assoc, go_sem]
    repeat refine sd2 ?_
    exact PostF.of (p := True) (v0 := .agg [.int .i64 1, .int .i64 p.a, .int .i64 p.b, .int .i64 0, .sl ⟨L + 1, q⟩ 0 (p.n9 + 1)]) (.inr rfl) (by simp only [resVal, resVals, resVal1, one, n32_q, go_sem]) trivial (by simp [rstP, Wk, WkL, Tx.look, hln, List.take_of_length_le, q_0, q_32, q_480]) (by simp [rstP, wkN, wkNL]) (by simp [rstP, Tx.nf, nfl]) trivial (by simp [UpdAll, keys])
   ·have f1 : decide ((p.n9 : Int) < (p.l.length : Int)) = false := dF (by omega)
    simp only [f1, Pcx.row, List.length_map, n0_q, n32_q, n480_q, Nat.add_assoc, go_sem]
    repeat refine sd2 ?_
    exact PostF.of (p := True) (v0 := .agg [.int .i64 1, .int .i64 p.a, .int .i64 p.b, .int .i64 0, .sl ⟨L + 1, q⟩ 0 (p.n9 + 1)]) (.inr rfl) (by simp only [resVal, resVals, resVal1, one, n32_q, go_sem]) trivial (by simp [rstP, Wk, WkL, Tx.look, hln, List.take_of_length_le, q_0, q_32, q_480]) (by simp [rstP, wkN, wkNL]) (by simp [rstP, Tx.nf, nfl]) trivial (by simp [UpdAll, keys])
def Pcx.ga (p : Pcx) : Nat → Nat
 | 0 => 0
 | i + 1 => p.ga i + 2 + (p.x i).1 + (p.x i).2
def Pcx.gp (p : Pcx) (i : Nat) : List (Nat × Nat) := (List.range i).map fun j => (p.ga j + (2 + (p.x j).1), p.ga (j + 1))
def Pcx.db (p : Pcx) (i : Nat) : List Nat := (List.range i).map fun j => (p.d + j * p.c) % 4294967296
theorem Pcx.gp_succ (p : Pcx) (i : Nat) : p.gp (i + 1) = p.gp i ++ [(p.ga i + (2 + (p.x i).1), p.ga (i + 1))] := by simp [Pcx.gp, List.range_succ]
theorem Pcx.gp_len (p : Pcx) (i : Nat) : (p.gp i).length = i := by simp [Pcx.gp]
theorem Pcx.db_succ (p : Pcx) (i : Nat) : p.db (i + 1) = p.db i ++ [(p.d + i * p.c) % 4294967296] := by simp [Pcx.db, List.range_succ]
theorem Pcx.db_len (p : Pcx) (i : Nat) : (p.db i).length = i := by simp [Pcx.db]
theorem Pcx.ga_le {p : Pcx} (h : p.Ok) : ∀ i, p.ga i ≤ 512 * i
 | 0 => by simp [Pcx.ga]
 | i + 1 => by have := Pcx.ga_le h i; have := h.x i; simp only [Pcx.ga]; omega
theorem subNx {L : Nat} {F0 : SF} {t : List (Option PV)} {H : List (Nm × SBlk)} {nx nx' : Nat} (h : nx ≤ nx') : Sub L F0 ⟨t, H, nx⟩ ⟨t, H, nx'⟩ :=
 fun _ _ _ E _ _ _ hR => ⟨E, hR.step, hR.tmps, hR.marks, fun n h1 h2 => ⟨(hR.news n h1 h2).1, Nat.lt_of_lt_of_le (hR.news n h1 h2).2 h⟩⟩
theorem pSack_ok {F : SF} {L nx : Nat} (p : Pcx) (hp : p.Ok) : Con Tryz.prog 25 [.agg p.row] F L nx nx (sackP p.a p.b ((p.gp p.n).map kN) ((p.db (p.c % 6)).map fun x : Nat => (x : Int))) [] [] := by
 have hx := hp.x
 have hfa := Pcx.ga_le hp
 obtain ⟨hw, ha, hb, hc, hd, hl, hll, hpl⟩ := hp
 have tc : (p.c : Int).tmod 6 = ((p.c % 6 : Nat) : Int) := tmL p.c 6 (by omega)
 refine bdy Tryz.f25 ?_
 intro F3 hF1 hF2
 simp only [Tryz.f25, cx, Pcx.row, Nat.add_zero, go_sem, meths]
 repeat refine sd2 ?_
 refine loopK.intro _ _ (I := fun z : Nat × Nat => ⟨[none, some (.ptr ⟨L + 1, 0⟩ 0 0), some (.ptr ⟨L + 1, 32⟩ 0 0), some (.ptr ⟨L + 1, 352⟩ 0 0), some (.int .i64 (p.ga z.1)), some (.int .i64 z.1)] ++ oz 76,
  [(⟨L + 1, 0⟩, .rows 65 7 true true [p.row]), (⟨L + 1, 32⟩, .rows 55 4 true true [[.int .i64 0, .int .i64 0, .nilS, .nilS]]), (⟨L + 1, 352⟩, .rows 55 4 true false [[.int .i64 p.a, .int .i64 p.b, .sl ⟨L + 1, z.2⟩ 0 z.1, .nilS]]), (⟨L + 1, z.2⟩, .rows 118 2 true true (((p.gp z.1).map kN).map kE))], if z.1 = p.n then 1000000 else 10000 * (z.1 + 1)⟩)
  (pre := fun z => z.1 ≤ p.n ∧ 480 ≤ z.2 ∧ z.2 < 10000 * (z.1 + 1)) (μ := fun z => p.n - z.1) (0, 480) ⟨by simp, by simp, by simp⟩ ?_ ?_
 ·refine Sub.trans (Sub.nilCell (n := ⟨L + 1, 352⟩) (e := 55) (e2 := 118) (wd := 4) (wd2 := 2) (o := true) (p := true) (row := [.int .i64 p.a, .int .i64 p.b, .nilS, .nilS]) (row1 := [.int .i64 p.a, .int .i64 p.b, .sl ⟨L + 1, 480⟩ 0 0, .nilS]) (by omega) (by simp [Tx.look]) (by simp) rfl ?_) ?_
  ·intro k
   rcases k with _ | _ | _ | k
   ·exact .inl rfl
   ·exact .inl rfl
   ·exact .inr ⟨rfl, rfl⟩
   ·exact .inl rfl
  ·refine Sub.of (hfz hF2) (by simp only [Pcx.ga, go_sem, subT, and_self, Int.natCast_zero]; try trivial) ?_ ?_ ?_
   ·simp [subH, Tx.look, updH, setH, Pcx.gp, Pcx.row]
   ·simp [subK, keys, updH, setH]
   ·simp only []; split <;> omega
 ·rintro ⟨i, q⟩ ⟨hi, hq0, hq⟩
  simp only at hi hq0 hq ⊢
  have hln := p.gp_len i
  have hb9 := hfa i
  have hx9 := hx i
  have q_0 : (q = 0) = False := by apply eq_false; omega
  have n0_q : (0 = q) = False := by apply eq_false; omega
  have q_32 : (q = 32) = False := by apply eq_false; omega
  have n32_q : (32 = q) = False := by apply eq_false; omega
  have q_352 : (q = 352) = False := by apply eq_false; omega
  have n352_q : (352 = q) = False := by apply eq_false; omega
  obtain ⟨q_n1, q_n2, q_n3, q_n4, q_n5⟩ := nqL L (i := i) (p := q) (by omega)
  by_cases hlt : i < p.n
  ·have hn := hlt
   have hne : ¬ i = p.n := by omega
   unfold Pcx.n at hn
   have f1 : decide ((i : Int) < (p.l.length : Int)) = true := dT (by omega)
   have f2 : decide ((i : Int) < 30) = true := dT (by omega)
   have r0 := Pcx.row_at (p := p) (i := i) (by omega)
   obtain ⟨y, hy⟩ : ∃ y, y = p.x i := ⟨_, rfl⟩
   rw [← hy] at r0 hx9
   have k1 : (p.ga i : Int) + 2 + (y.1 : Int) = ((p.ga i + (2 + y.1) : Nat) : Int) := by omega
   have k2 : ((p.ga i + (2 + y.1) : Nat) : Int) + (y.2 : Int) = ((p.ga (i + 1) : Nat) : Int) := by rw [hy]; simp only [Pcx.ga]; omega
   have k3 : p.gp (i + 1) = p.gp i ++ [(p.ga i + (2 + y.1), p.ga (i + 1))] := by rw [hy]; exact p.gp_succ i
   have hb8 := hfa (i + 1)
   have hb7 : p.ga i + 2 + y.1 ≤ p.ga (i + 1) := by rw [hy]; simp only [Pcx.ga]; omega
   simp only [f1, f2, hne, if_false, r0, k1, k2, Pcx.row, List.length_map, q_0, n0_q, q_32, q_352, n352_q, q_n1, q_n2, q_n5, kS2, kS2', kS3, Nat.add_assoc, Nat.add_zero, go_sem]
   repeat refine sd2 ?_
   refine ⟨(i + 1, 10000 * (i + 1) + 1152), ⟨by simp only []; omega, by simp only []; omega, by simp only []; omega⟩, by simp only []; omega, ?_⟩
   refine Sub.of (hfz hF2) (by simp only [go_sem, subT, and_self, Int.natCast_succ]) ?_ (by simp [subK, keys]) (by simp only []; split <;> omega)
   simp [subH, Tx.look, k3, kN, kE, q_n1, nB, kS2]
  ·have hin : i = p.n := by omega
   have hc6 : p.c % 6 < 6 := Nat.mod_lt _ (by omega)
   have hn30 : p.n ≤ 30 := by unfold Pcx.n; omega
   have hcase : (decide ((i : Int) < (p.l.length : Int)) = true ∧ decide ((i : Int) < 30) = false) ∨ decide ((i : Int) < (p.l.length : Int)) = false := by
    by_cases h30 : i < p.l.length
    ·exact .inl ⟨dT (by omega), dF (by unfold Pcx.n at hin; omega)⟩
    ·exact .inr (dF (by omega))
   obtain ⟨N, hN⟩ : ∃ N, N = p.n := ⟨_, rfl⟩
   rw [← hN] at hin hn30
   subst hin
   rcases hcase with ⟨f1, f2⟩ | f1
   all_goals
    first
     | simp only [f1, f2, ← hN, if_true, Pcx.row, List.length_map, n0_q, go_sem]
     | simp only [f1, ← hN, if_true, Pcx.row, List.length_map, n0_q, go_sem]
    repeat refine sd2 ?_
    have q9 : (q = 1000320) = False := by apply eq_false; omega
    have q8 : (1000320 = q) = False := by apply eq_false; omega
    refine loopK.intro _ _ (I := fun z : Nat × Nat => ⟨[none, some (.ptr ⟨L + 1, 0⟩ 0 0), some (.ptr ⟨L + 1, 32⟩ 0 0), some (.ptr ⟨L + 1, 352⟩ 0 0), none, none, none, some (.int .i64 ((z.1 - 1000 : Nat) : Int))] ++ oz 74,
     [(⟨L + 1, 0⟩, .rows 65 7 true true [p.row]), (⟨L + 1, 32⟩, .rows 55 4 true true [[.int .i64 0, .int .i64 0, .nilS, .nilS]]), (⟨L + 1, 352⟩, .rows 55 4 true false [[.int .i64 p.a, .int .i64 p.b, .sl ⟨L + 1, q⟩ 0 i, .sl ⟨L + 1, z.2⟩ 0 (z.1 - 1000)]]), (⟨L + 1, q⟩, .rows 118 2 true true (((p.gp i).map kN).map kE)), (⟨L + 1, z.2⟩, .rows 3 1 true true (((p.db (z.1 - 1000)).map fun x : Nat => (x : Int)).map eI))], 10000 * (z.1 + 1)⟩)
     (pre := fun z => 1000 ≤ z.1 ∧ z.1 ≤ 1000 + p.c % 6 ∧ 1000000 ≤ z.2 ∧ z.2 < 10000 * (z.1 + 1)) (μ := fun z => 1000 + p.c % 6 - z.1) (1000, 1000320) ⟨by simp, by simp, by simp, by simp⟩ ?_ ?_
    ·refine Sub.trans (subNx (nx' := 1000320) (by omega)) (Sub.trans (Sub.nilCell (n := ⟨L + 1, 352⟩) (e := 55) (e2 := 3) (wd := 4) (wd2 := 1) (o := true) (p := false) (row := [.int .i64 p.a, .int .i64 p.b, .sl ⟨L + 1, q⟩ 0 i, .nilS]) (row1 := [.int .i64 p.a, .int .i64 p.b, .sl ⟨L + 1, q⟩ 0 i, .sl ⟨L + 1, 1000320⟩ 0 0]) (by omega) (by simp [Tx.look]) (by simp) rfl ?_) ?_)
     ·intro k
      rcases k with _ | _ | _ | _ | k
      ·exact .inl rfl
      ·exact .inl rfl
      ·exact .inl rfl
      ·exact .inr ⟨rfl, rfl⟩
      ·exact .inl rfl
     ·refine Sub.of (hfz hF2) (by simp only [Nat.sub_self, go_sem, subT, and_self, Int.natCast_zero]; try trivial) ?_ ?_ ?_
      ·simp [subH, Tx.look, updH, setH, Pcx.db, Pcx.row, q8, q_0, q_32, q_352]
      ·simp [subK, keys, updH, setH, q8, q9]
      ·simp only []; omega
    ·try clear f2
     clear f1 hx9 hb9 hlt hi
     rintro ⟨i2, q2⟩ ⟨g0, g1, g2, g3⟩
     obtain ⟨r, hr⟩ : ∃ r, r = q := ⟨_, rfl⟩
     rw [← hr] at hq hq0 ⊢
     obtain ⟨m, hm⟩ : ∃ m, m = i := ⟨_, rfl⟩
     rw [← hm] at hln hq hn30 hN ⊢
     clear q8 q9 q_0 n0_q q_32 n32_q q_352 n352_q q_n1 q_n2 q_n3 q_n4 q_n5 hm hr
     clear i q
     obtain ⟨i, hi⟩ : ∃ i, i = i2 := ⟨_, rfl⟩
     rw [← hi] at g0 g1 g2 g3 ⊢
     clear hi
     clear i2
     simp only at g0 g1 g2 g3 ⊢
     obtain ⟨k, hk⟩ : ∃ k, k = i - 1000 := ⟨_, rfl⟩
     have hk1 : i + 1 - 1000 = k + 1 := by omega
     have hdl := p.db_len k
     have r_0 : (r = 0) = False := by apply eq_false; omega
     have n0_r : (0 = r) = False := by apply eq_false; omega
     have r_32 : (r = 32) = False := by apply eq_false; omega
     have n32_r : (32 = r) = False := by apply eq_false; omega
     have r_352 : (r = 352) = False := by apply eq_false; omega
     have n352_r : (352 = r) = False := by apply eq_false; omega
     obtain ⟨r_n1, r_n2, r_n3, r_n4, r_n5⟩ := nqL L (i := i) (p := r) (by omega)
     have q2_0 : (q2 = 0) = False := by apply eq_false; omega
     have n0_q2 : (0 = q2) = False := by apply eq_false; omega
     have q2_32 : (q2 = 32) = False := by apply eq_false; omega
     have n32_q2 : (32 = q2) = False := by apply eq_false; omega
     have q2_352 : (q2 = 352) = False := by apply eq_false; omega
     have n352_q2 : (352 = q2) = False := by apply eq_false; omega
     have q2_r : (q2 = r) = False := by apply eq_false; omega
     have nr_q2 : (r = q2) = False := by apply eq_false; omega
     obtain ⟨q2_n1, q2_n2, q2_n3, q2_n4, q2_n5⟩ := nqL L (i := i) (p := q2) (by omega)
     by_cases hlt : k < p.c % 6
     ·have f1 : decide ((k : Int) < ((p.c % 6 : Nat) : Int)) = true := dT (by omega)
      have hkc : k * p.c ≤ 5 * 4294967295 := Nat.mul_le_mul (by omega) (by omega)
      have k1 : (k : Int) * (p.c : Int) = ((k * p.c : Nat) : Int) := (Int.natCast_mul _ _).symm
      have k2 : (p.d : Int) + ((k * p.c : Nat) : Int) = ((p.d + k * p.c : Nat) : Int) := by omega
      have k3 : ((p.d + k * p.c : Nat) : Int).tmod 4294967296 = (((p.d + k * p.c) % 4294967296 : Nat) : Int) := tmL _ 4294967296 (by omega)
      have k4 := p.db_succ k
      simp only [← hk, f1, tc, k1, k2, k3, Pcx.row, List.length_map, n0_r, n352_r, r_n1, q2_0, n0_q2, q2_32, q2_352, n352_q2, q2_r, q2_n1, q2_n2, q2_n5, kS2, kS2', kS3, Nat.add_assoc, go_sem]
      repeat refine sd2 ?_
      refine ⟨(i + 1, 10000 * (i + 1) + 704), ⟨by simp only []; omega, by simp only []; omega, by simp only []; omega, by simp only []; omega⟩, by simp only []; omega, ?_⟩
      refine Sub.of (hfz hF2) (by simp only [hk1, go_sem, subT, and_self, Int.natCast_succ]) ?_ (by simp [subK, keys]) (by simp only []; omega)
      simp [subH, Tx.look, hk1, k4, eI, r_0, r_32, r_352, r_n1, q2_n1, nB, kS2]
     ·have f1 : decide ((k : Int) < ((p.c % 6 : Nat) : Int)) = false := dF (by omega)
      have hkn : k = p.c % 6 := by omega
      simp only [← hk, f1, tc, Pcx.row, n0_r, n32_r, n352_r, n0_q2, n32_q2, n352_q2, Nat.add_assoc, go_sem]
      repeat refine sd2 ?_
      rw [← hkn]
      exact PostF.of (p := True) (v0 := .agg [.int .i64 p.a, .int .i64 p.b, .sl ⟨L + 1, r⟩ 0 m, .sl ⟨L + 1, q2⟩ 0 k]) (.inr rfl) (by simp only [resVal, resVals, resVal1, one, n32_r, n32_q2, go_sem]) trivial (by simp [sackP, Wk, WkL, Tx.look, hln, hdl, List.take_of_length_le, r_0, r_32, r_352, q2_0, q2_32, q2_352, q2_r]) (by simp [sackP, wkN, wkNL]) (by simp [sackP, Tx.nf, nfl]) trivial (by simp [UpdAll, keys])
end Go.Proofs.YtaacfnngodhecaaGreatDoor
end
section
namespace Go.Proofs.YtaacfnngodhecaaGreatDoor
open Go.ChangeShapes Go.WideShapes Go.ChangeAt Go.RowKit Go.Tx
theorem ownK32 : ownKnob Tryz.prog.godebug = none := by kernel_rfl
theorem laidOut32 : laidOutB Tryz.prog = true := by kernel_rfl
set_option maxRecDepth 100000
def isStr32 : Option TypeDesc → Bool
 | some (.struct _) => true
 | _ => false
theorem undS {x : Option TypeDesc} (h : isStr32 x = true) : ∃ fs, x = some (.struct fs) := by
 unfold isStr32 at h
 split at h
 ·exact ⟨_, rfl⟩
 ·cases h
theorem undBool32 : Tryz.prog.underlying 4 = some .bool := by kernel_rfl
theorem wf8 {n : Int} (h : (Lit.int .u8 n).wf = true) : ∃ k : Nat, n = k ∧ k < 256 := by
 have : 0 ≤ n ∧ n ≤ 255 := by simpa [Lit.wf, IntKind.min, IntKind.max, IntKind.signed, IntKind.bits] using h
 exact ⟨n.toNat, by omega, by omega⟩
theorem wf16 {n : Int} (h : (Lit.int .u16 n).wf = true) : ∃ k : Nat, n = k ∧ k < 65536 := by
 have : 0 ≤ n ∧ n ≤ 65535 := by simpa [Lit.wf, IntKind.min, IntKind.max, IntKind.signed, IntKind.bits] using h
 exact ⟨n.toNat, by omega, by omega⟩
theorem wf32 {n : Int} (h : (Lit.int .u32 n).wf = true) : ∃ k : Nat, n = k ∧ k < 4294967296 := by
 have : 0 ≤ n ∧ n ≤ 4294967295 := by simpa [Lit.wf, IntKind.min, IntKind.max, IntKind.signed, IntKind.bits] using h
 exact ⟨n.toNat, by omega, by omega⟩
theorem rowsOf {α : Type} {p : List PV → Prop} {f : α → List PV} {ok : α → Prop} (hp : ∀ xs, p xs → ∃ a, xs = f a ∧ ok a) : ∀ (rs : List (List PV)), (∀ r ∈ rs, p r) → ∃ l : List α, rs = l.map f ∧ ∀ a ∈ l, ok a
 | [], _ => ⟨[], rfl, by simp⟩
 | r :: rs, h => by
  obtain ⟨l, e, hl⟩ := rowsOf hp rs (fun x hx => h x (by simp [hx]))
  obtain ⟨a, ha, ho⟩ := hp r (h r (by simp))
  refine ⟨a :: l, by rw [e, ha]; rfl, fun x hx => ?_⟩
  rcases List.mem_cons.1 hx with rfl | hx
  ·exact ho
  ·exact hl x hx
theorem shpB2 {n : Nat} {xs : List PV} (h : Shp tys (n + 2) 151 xs) : ∃ x : Nat × Nat, xs = e2 x ∧ x.1 < 256 ∧ x.2 < 256 := by
 have h := Shp.array g151 h
 simp only [List.foldr, List.range, List.range.loop] at h
 obtain ⟨_, _, rfl, h1, _, _, rfl, h2, rfl⟩ := h
 obtain ⟨_, rfl, w1⟩ := Shp.int g5 h1
 obtain ⟨_, rfl, w2⟩ := Shp.int g5 h2
 obtain ⟨a1, rfl, b1⟩ := wf8 w1
 obtain ⟨a2, rfl, b2⟩ := wf8 w2
 exact ⟨(a1, a2), rfl, b1, b2⟩
theorem shpN4 {n : Nat} {xs : List PV} (h : Shp tys (n + 2) 62 xs) : ∃ (a b c d : Nat), xs = [.int .u32 a, .int .u32 b, .int .u32 c, .int .u32 d] ∧ a < 4294967296 ∧ b < 4294967296 ∧ c < 4294967296 ∧ d < 4294967296 := by
 have h := Shp.array g62 h
 simp only [List.foldr, List.range, List.range.loop] at h
 obtain ⟨_, _, rfl, h1, _, _, rfl, h2, _, _, rfl, h3, _, _, rfl, h4, rfl⟩ := h
 obtain ⟨_, rfl, w1⟩ := Shp.int g26 h1
 obtain ⟨_, rfl, w2⟩ := Shp.int g26 h2
 obtain ⟨_, rfl, w3⟩ := Shp.int g26 h3
 obtain ⟨_, rfl, w4⟩ := Shp.int g26 h4
 obtain ⟨a1, rfl, b1⟩ := wf32 w1
 obtain ⟨a2, rfl, b2⟩ := wf32 w2
 obtain ⟨a3, rfl, b3⟩ := wf32 w3
 obtain ⟨a4, rfl, b4⟩ := wf32 w4
 exact ⟨a1, a2, a3, a4, rfl, b1, b2, b3, b4⟩
theorem shpPiece {n : Nat} {xs : List PV} (h : Shp tys (n + 4) 65 xs) : ∃ p : Pcx, xs = p.row ∧ p.Ok := by
 have h := Shp.struct g65 h
 simp only [List.foldr] at h
 obtain ⟨_, _, rfl, h1, _, _, rfl, h2, _, _, rfl, h3, _, _, rfl, h4, rfl⟩ := h
 obtain ⟨_, rfl, w1⟩ := Shp.int g5 h1
 obtain ⟨w, rfl, bw⟩ := wf8 w1
 obtain ⟨a, b, c, d, rfl, ba, bb, bc, bd⟩ := shpN4 h2
 obtain ⟨wd, rs, rfl, l3, e3, s3⟩ := Shp.slice g63 h3
 rw [g151] at e3
 simp only [Option.map_some, Option.some.injEq] at e3
 subst e3
 obtain ⟨l, rfl, hl⟩ := rowsOf (f := e2) (ok := fun x => x.1 < 256 ∧ x.2 < 256) (fun xs => shpB2) rs s3
 obtain ⟨pl, rfl, l4⟩ := Shp.str g9 h4
 exact ⟨⟨w, a, b, c, d, l, pl⟩, rfl, bw, ba, bb, bc, bd, hl, by simpa using l3, l4⟩
end Go.Proofs.YtaacfnngodhecaaGreatDoor
end
