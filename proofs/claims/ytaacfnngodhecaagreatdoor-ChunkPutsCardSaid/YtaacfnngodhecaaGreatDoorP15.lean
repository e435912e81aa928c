/- Lemmas for the walk: WK6, WK21, U42, WK22. -/
import Derived.Test.YtaacfnngodhecaaGreatDoorP11
import Derived.Test.YtaacfnngodhecaaGreatDoorP12
import Derived.Test.YtaacfnngodhecaaGreatDoorP14
set_option linter.all false
section
namespace Go.Proofs.YtaacfnngodhecaaGreatDoor
open Go.Tx
set_option maxRecDepth 100000
set_option maxHeartbeats 2000000
theorem BW_dead {L : Nat} {G : SF} {ob : Option SBlk} : BW L G ob .dead := by
 cases ob with
 | none => trivial
 | some b => cases b <;> trivial
def OfOk (g : FuncId) (xs ys : List PV) (s : List UInt8) (v : PV) (p : Nat) (F : SF) (rds : List Nm) : Prop :=
 ∀ (F' : SF) (L : Nat) (r : Nm) (nx : Nat), (∀ n ∈ rds, F' n = F n) → r.l ≤ L → (∀ n ∈ rds, n.l ≤ L) → F' r = some (rdB s 0) → Con Tryz.prog g (xs ++ [.ptr r 0 0] ++ ys) F' L nx nx v [(r, rdB s p)] (r :: rds)
def OfDie (g : FuncId) (xs ys : List PV) (s : List UInt8) (F : SF) (rds : List Nm) : Prop :=
 ∀ (F' : SF) (L : Nat) (r : Nm), (∀ n ∈ rds, F' n = F n) → r.l ≤ L → (∀ n ∈ rds, n.l ≤ L) → F' r = some (rdB s 0) → DCon Tryz.prog chM g (xs ++ [.ptr r 0 0] ++ ys) F' L [(r, .dead)] (r :: rds)
def PutOk (gp : FuncId) (l : List PV) (k fl : Int) (b : List UInt8) (e : Int) : Prop :=
 ∀ (F : SF) (L nx : Nat), Con Tryz.prog gp [.agg l] F L nx nx (.tup [.agg [.int .i64 k, .int .i64 fl, .str b], .int .i64 e]) [] []
theorem OfOk.agree {g : FuncId} {xs ys : List PV} {s : List UInt8} {v : PV} {p : Nat} {F F2 : SF} {rds : List Nm} (h : OfOk g xs ys s v p F rds) (ha : ∀ n ∈ rds, F2 n = F n) : OfOk g xs ys s v p F2 rds :=
 fun F' L r nx h1 => h F' L r nx fun n hn => (h1 n hn).trans (ha n hn)
theorem OfDie.agree {g : FuncId} {xs ys : List PV} {s : List UInt8} {F F2 : SF} {rds : List Nm} (h : OfDie g xs ys s F rds) (ha : ∀ n ∈ rds, F2 n = F n) : OfDie g xs ys s F2 rds :=
 fun F' L r h1 => h F' L r fun n hn => (h1 n hn).trans (ha n hn)
def GetBad (g gp : FuncId) (xs ys : List PV) (s : List UInt8) (k fl : Int) (w : Nat) (F : SF) (rds : List Nm) : Prop :=
 OfDie g xs ys s F rds ∨ (∃ l p, l.length = w ∧ nfl l = true ∧ p ≠ s.length ∧ OfOk g xs ys s (.agg l) p F rds) ∨
 (∃ l k2 fl2 e2 b2, l.length = w ∧ nfl l = true ∧ OfOk g xs ys s (.agg l) s.length F rds ∧ PutOk gp l k2 fl2 b2 e2 ∧ ¬(e2 = 0 ∧ k2 = k ∧ fl2 = fl ∧ b2 = s))
theorem getData1_ok {F : SF} {L nx : Nat} (r nof npt nc : Nm) (hr : r.l ≤ L) (hof : nof.l ≤ L) (hpt : npt.l ≤ L) (hc : nc.l ≤ L) (d1 : nof ≠ r) (d2 : npt ≠ r) (d3 : nc ≠ r) (s : List UInt8) (hl : s.length ≤ 1000000) (k fl : Int) (eo ep : TypeId) (oo op po pp oc : Bool) (g gp : FuncId) (xs ys : List PV) (l : List PV) (hlw : l.length = 8) (hnf : nfl l = true) (rds : List Nm) (hrd : ∀ n ∈ rds, n.l ≤ L ∧ n ≠ r)
  (hFr : F r = some (rdB s 0)) (hFo : F nof = some (.rows eo 1 oo po [[.fn (.func g) xs ys]])) (hFp : F npt = some (.rows ep 1 op pp [[.fn (.func gp) [] []]])) (hFc : F nc = some (.rows 34 3 oc true [[.int .i64 k, .int .i64 fl, .str s]]))
  (hg : OfOk g xs ys s (.agg l) s.length F rds) (hp : PutOk gp l k fl s 0) : Con Tryz.prog 120 [.ptr r 0 0, .ptr nof 0 0, .ptr npt 0 0, .ptr nc 0 0] F L nx nx (.agg l) [(r, .dead)] (r :: nof :: npt :: nc :: rds) := by
 refine bdy Tryz.f120 (hrd := (by intro n hn; simp at hn; rcases hn with rfl | rfl | rfl | rfl | hn <;> first | assumption | exact (hrd n hn).1)) ?_
 intro F3 hF1 hF2
 have kr : F3 r = some (rdB s 0) := (hF1 r (by simp)).trans hFr
 have ko : F3 nof = some (.rows eo 1 oo po [[.fn (.func g) xs ys]]) := (hF1 nof (by simp)).trans hFo
 have kp : F3 npt = some (.rows ep 1 op pp [[.fn (.func gp) [] []]]) := (hF1 npt (by simp)).trans hFp
 have kc : F3 nc = some (.rows 34 3 oc true [[.int .i64 k, .int .i64 fl, .str s]]) := (hF1 nc (by simp)).trans hFc
 have n1 : ∀ k, (r = (⟨L + 1, k⟩ : Nm)) = False := nm_out hr
 have n2 : ∀ k, ((⟨L + 1, k⟩ : Nm) = r) = False := nm_out' hr
 have o1 : ∀ k, (nof = (⟨L + 1, k⟩ : Nm)) = False := nm_out hof
 have o2 : ∀ k, (npt = (⟨L + 1, k⟩ : Nm)) = False := nm_out hpt
 have o3 : ∀ k, (nc = (⟨L + 1, k⟩ : Nm)) = False := nm_out hc
 have e1 : (nof = r) = False := eq_false d1
 have e2 : (npt = r) = False := eq_false d2
 have e3 : (nc = r) = False := eq_false d3
 simp only [Tryz.f120, cx, ko, o1, go_sem, meths]
 refine CallVC.same (hg _ (L + 1) r _ (fun n hn => ?_) (by omega) (fun n hn => by have := (hrd n hn).1; omega) (by simp [n1, kr])) ?_
 ·have e5 : ∀ k, (n = (⟨L + 1, k⟩ : Nm)) = False := nm_out (hrd n hn).1
  simp [e5, hF1 n (by simp [hn])]
 simp only [rdB, kr, n1, n2, hlw, hnf, Nat.add_zero, go_sem]
 repeat refine sd1 ?_
 refine CallVC.sameP must_ok rfl ?_
 simp only [kp, n2, o2, e2, go_sem]
 repeat refine sd1 ?_
 refine CallVC.sameP (hp _ _ _) rfl ?_
 simp only [kc, n2, o3, e3, go_sem]
 repeat refine sd1 ?_
 refine CallVC.sameP must_ok rfl ?_
 simp only [n2, hlw, hnf, go_sem]
 repeat refine sd1 ?_
 exact PostF.of (p := True) (v0 := .agg l) (.inr rfl) (by simp only [resVal, resVals, resVal1, one, go_sem]) trivial (wk_refl _ _).1 (by rw [(wk_refl (fun _ => none) _).2]; simp) (by simp only [Tx.nf]; exact hnf) ⟨hr, BW_dead, trivial⟩ (by simp [UpdAll, keys])
theorem getData1_dieOf {F : SF} {L : Nat} (r nof npt nc : Nm) (hr : r.l ≤ L) (hof : nof.l ≤ L) (hpt : npt.l ≤ L) (hc : nc.l ≤ L) (d1 : nof ≠ r) (d2 : npt ≠ r) (d3 : nc ≠ r) (s : List UInt8) (hl : s.length ≤ 1000000) (k fl : Int) (eo ep : TypeId) (oo op po pp oc : Bool) (g gp : FuncId) (xs ys : List PV) (l : List PV) (hlw : l.length = 8) (hnf : nfl l = true) (rds : List Nm) (hrd : ∀ n ∈ rds, n.l ≤ L ∧ n ≠ r)
  (hFr : F r = some (rdB s 0)) (hFo : F nof = some (.rows eo 1 oo po [[.fn (.func g) xs ys]])) (hFp : F npt = some (.rows ep 1 op pp [[.fn (.func gp) [] []]])) (hFc : F nc = some (.rows 34 3 oc true [[.int .i64 k, .int .i64 fl, .str s]]))
  (hg : OfDie g xs ys s F rds) : DCon Tryz.prog chM 120 [.ptr r 0 0, .ptr nof 0 0, .ptr npt 0 0, .ptr nc 0 0] F L [(r, .dead)] (r :: nof :: npt :: nc :: rds) := by
 refine DCon.body (cxOk (L + 1)) rfl rfl (fn := Tryz.f120) (c := Tryz.f120.body.getD .skip) (by kernel_rfl) (by rfl) (by kernel_rfl) rfl  (by intro n hn; simp at hn; rcases hn with rfl | rfl | rfl | rfl | hn <;> first | assumption | exact (hrd n hn).1) ?_
 intro F3 hF1 hF2
 have kr : F3 r = some (rdB s 0) := (hF1 r (by simp)).trans hFr
 have ko : F3 nof = some (.rows eo 1 oo po [[.fn (.func g) xs ys]]) := (hF1 nof (by simp)).trans hFo
 have kp : F3 npt = some (.rows ep 1 op pp [[.fn (.func gp) [] []]]) := (hF1 npt (by simp)).trans hFp
 have kc : F3 nc = some (.rows 34 3 oc true [[.int .i64 k, .int .i64 fl, .str s]]) := (hF1 nc (by simp)).trans hFc
 have n1 : ∀ k, (r = (⟨L + 1, k⟩ : Nm)) = False := nm_out hr
 have n2 : ∀ k, ((⟨L + 1, k⟩ : Nm) = r) = False := nm_out' hr
 have o1 : ∀ k, (nof = (⟨L + 1, k⟩ : Nm)) = False := nm_out hof
 have o2 : ∀ k, (npt = (⟨L + 1, k⟩ : Nm)) = False := nm_out hpt
 have o3 : ∀ k, (nc = (⟨L + 1, k⟩ : Nm)) = False := nm_out hc
 have e1 : (nof = r) = False := eq_false d1
 have e2 : (npt = r) = False := eq_false d2
 have e3 : (nc = r) = False := eq_false d3
 simp only [Tryz.f120, cx, ko, o1, go_sem, meths]
 refine CallVD.same rfl (hg _ (L + 1) r (fun n hn => ?_) (by omega) (fun n hn => by have := (hrd n hn).1; omega) (by simp [Tx.look, n1, kr])) ?_
 ·have e5 : ∀ k, (n = (⟨L + 1, k⟩ : Nm)) = False := nm_out (hrd n hn).1
  simp [Tx.look, e5, hF1 n (by simp [hn])]
 exact .dead (ns := [r]) (by simpa using hr) (by simp [UpdAll, updH, setH, n1, n2])
theorem getData1_dieAt {F : SF} {L : Nat} (r nof npt nc : Nm) (hr : r.l ≤ L) (hof : nof.l ≤ L) (hpt : npt.l ≤ L) (hc : nc.l ≤ L) (d1 : nof ≠ r) (d2 : npt ≠ r) (d3 : nc ≠ r) (s : List UInt8) (hl : s.length ≤ 1000000) (k fl : Int) (eo ep : TypeId) (oo op po pp oc : Bool) (g gp : FuncId) (xs ys : List PV) (l : List PV) (hlw : l.length = 8) (hnf : nfl l = true) (rds : List Nm) (hrd : ∀ n ∈ rds, n.l ≤ L ∧ n ≠ r)
  (hFr : F r = some (rdB s 0)) (hFo : F nof = some (.rows eo 1 oo po [[.fn (.func g) xs ys]])) (hFp : F npt = some (.rows ep 1 op pp [[.fn (.func gp) [] []]])) (hFc : F nc = some (.rows 34 3 oc true [[.int .i64 k, .int .i64 fl, .str s]]))
  (p : Nat) (hps : p ≠ s.length) (hg : OfOk g xs ys s (.agg l) p F rds) : DCon Tryz.prog chM 120 [.ptr r 0 0, .ptr nof 0 0, .ptr npt 0 0, .ptr nc 0 0] F L [(r, .dead)] (r :: nof :: npt :: nc :: rds) := by
 refine DCon.body (cxOk (L + 1)) rfl rfl (fn := Tryz.f120) (c := Tryz.f120.body.getD .skip) (by kernel_rfl) (by rfl) (by kernel_rfl) rfl  (by intro n hn; simp at hn; rcases hn with rfl | rfl | rfl | rfl | hn <;> first | assumption | exact (hrd n hn).1) ?_
 intro F3 hF1 hF2
 have kr : F3 r = some (rdB s 0) := (hF1 r (by simp)).trans hFr
 have ko : F3 nof = some (.rows eo 1 oo po [[.fn (.func g) xs ys]]) := (hF1 nof (by simp)).trans hFo
 have kp : F3 npt = some (.rows ep 1 op pp [[.fn (.func gp) [] []]]) := (hF1 npt (by simp)).trans hFp
 have kc : F3 nc = some (.rows 34 3 oc true [[.int .i64 k, .int .i64 fl, .str s]]) := (hF1 nc (by simp)).trans hFc
 have n1 : ∀ k, (r = (⟨L + 1, k⟩ : Nm)) = False := nm_out hr
 have n2 : ∀ k, ((⟨L + 1, k⟩ : Nm) = r) = False := nm_out' hr
 have o1 : ∀ k, (nof = (⟨L + 1, k⟩ : Nm)) = False := nm_out hof
 have o2 : ∀ k, (npt = (⟨L + 1, k⟩ : Nm)) = False := nm_out hpt
 have o3 : ∀ k, (nc = (⟨L + 1, k⟩ : Nm)) = False := nm_out hc
 have e1 : (nof = r) = False := eq_false d1
 have e2 : (npt = r) = False := eq_false d2
 have e3 : (nc = r) = False := eq_false d3
 simp only [Tryz.f120, cx, ko, o1, go_sem, meths]
 refine CallVD.live (CallVC.same (hg _ (L + 1) r _ (fun n hn => ?_) (by omega) (fun n hn => by have := (hrd n hn).1; omega) (by simp [n1, kr])) ?_)
 ·have e5 : ∀ k, (n = (⟨L + 1, k⟩ : Nm)) = False := nm_out (hrd n hn).1
  simp [e5, hF1 n (by simp [hn])]
 simp only [rdB, kr, n1, n2, hlw, hnf, Nat.add_zero, go_sem]
 have f1 : ((p : Int) == (s.length : Int)) = false := eqF (by omega)
 repeat refine sd1 ?_
 refine RegVD.dieAt 12 [] rfl (by simp) rfl (by kernel_rfl) ?_
 simp only [f1, rdB, kr, n1, Nat.add_zero, go_sem]
 refine dieX.same must_die ?_
 simp only [go_sem]
 repeat refine sd1 ?_
 exact fun nz => PostD.all (ns := [r]) rfl (by simpa using hr) (by simp [UpdAll, n2]) (by simp [keys])
theorem getData1_dieBack {F : SF} {L : Nat} (r nof npt nc : Nm) (hr : r.l ≤ L) (hof : nof.l ≤ L) (hpt : npt.l ≤ L) (hc : nc.l ≤ L) (d1 : nof ≠ r) (d2 : npt ≠ r) (d3 : nc ≠ r) (s : List UInt8) (hl : s.length ≤ 1000000) (k fl : Int) (eo ep : TypeId) (oo op po pp oc : Bool) (g gp : FuncId) (xs ys : List PV) (l : List PV) (hlw : l.length = 8) (hnf : nfl l = true) (rds : List Nm) (hrd : ∀ n ∈ rds, n.l ≤ L ∧ n ≠ r)
  (hFr : F r = some (rdB s 0)) (hFo : F nof = some (.rows eo 1 oo po [[.fn (.func g) xs ys]])) (hFp : F npt = some (.rows ep 1 op pp [[.fn (.func gp) [] []]])) (hFc : F nc = some (.rows 34 3 oc true [[.int .i64 k, .int .i64 fl, .str s]]))
  (hg : OfOk g xs ys s (.agg l) s.length F rds) (k2 fl2 e2 : Int) (b2 : List UInt8) (hp : PutOk gp l k2 fl2 b2 e2) (hne : ¬(e2 = 0 ∧ k2 = k ∧ fl2 = fl ∧ b2 = s)) : DCon Tryz.prog chM 120 [.ptr r 0 0, .ptr nof 0 0, .ptr npt 0 0, .ptr nc 0 0] F L [(r, .dead)] (r :: nof :: npt :: nc :: rds) := by
 refine DCon.body (cxOk (L + 1)) rfl rfl (fn := Tryz.f120) (c := Tryz.f120.body.getD .skip) (by kernel_rfl) (by rfl) (by kernel_rfl) rfl  (by intro n hn; simp at hn; rcases hn with rfl | rfl | rfl | rfl | hn <;> first | assumption | exact (hrd n hn).1) ?_
 intro F3 hF1 hF2
 have kr : F3 r = some (rdB s 0) := (hF1 r (by simp)).trans hFr
 have ko : F3 nof = some (.rows eo 1 oo po [[.fn (.func g) xs ys]]) := (hF1 nof (by simp)).trans hFo
 have kp : F3 npt = some (.rows ep 1 op pp [[.fn (.func gp) [] []]]) := (hF1 npt (by simp)).trans hFp
 have kc : F3 nc = some (.rows 34 3 oc true [[.int .i64 k, .int .i64 fl, .str s]]) := (hF1 nc (by simp)).trans hFc
 have n1 : ∀ k, (r = (⟨L + 1, k⟩ : Nm)) = False := nm_out hr
 have n2 : ∀ k, ((⟨L + 1, k⟩ : Nm) = r) = False := nm_out' hr
 have o1 : ∀ k, (nof = (⟨L + 1, k⟩ : Nm)) = False := nm_out hof
 have o2 : ∀ k, (npt = (⟨L + 1, k⟩ : Nm)) = False := nm_out hpt
 have o3 : ∀ k, (nc = (⟨L + 1, k⟩ : Nm)) = False := nm_out hc
 have e1 : (nof = r) = False := eq_false d1
 have e2' : (npt = r) = False := eq_false d2
 have e3 : (nc = r) = False := eq_false d3
 simp only [Tryz.f120, cx, ko, o1, go_sem, meths]
 refine CallVD.live (CallVC.same (hg _ (L + 1) r _ (fun n hn => ?_) (by omega) (fun n hn => by have := (hrd n hn).1; omega) (by simp [n1, kr])) ?_)
 ·have e5 : ∀ k, (n = (⟨L + 1, k⟩ : Nm)) = False := nm_out (hrd n hn).1
  simp [e5, hF1 n (by simp [hn])]
 simp only [rdB, kr, n1, n2, hlw, hnf, Nat.add_zero, go_sem]
 repeat refine sd1 ?_
 refine RegVD.live ?_
 repeat refine sd1 ?_
 refine CallVC.sameP must_ok rfl ?_
 simp only [kp, n2, o2, e2', go_sem]
 repeat refine sd1 ?_
 refine CallVD.live (CallVC.sameP (hp _ _ _) rfl ?_)
 simp only [kc, n2, o3, e3, go_sem]
 repeat refine sd1 ?_
 refine brB.mk (fun h => ?_) (fun h => ?_)
 ·have h1 : e2 = 0 := by simpa using h
  have f2 : (k2 == k && (fl2 == fl && b2 == s)) = false := by
   rw [Bool.eq_false_iff]
   intro h2
   simp only [Bool.and_eq_true, beq_iff_eq] at h2
   exact hne ⟨h1, h2.1, h2.2.1, h2.2.2⟩
  simp only [f2]
  refine CallVD.same rfl must_die ?_
  exact .dead (ns := [r]) (by simpa using hr) (by simp [UpdAll, updH, n2])
 ·simp only [h, Bool.not_true, go_sem]
  refine CallVD.same rfl must_die ?_
  exact .dead (ns := [r]) (by simpa using hr) (by simp [UpdAll, updH, n2])
theorem getData_kind {F : SF} {L nx : Nat} (s : List UInt8) (k fl : Int) (g gp : FuncId) (xs ys : List PV) (ks : List Int) (hk : (ks.any fun x => k == x) = false) (hks : ks.length ≤ 1000) :
  Con Tryz.prog 84 [.agg [.int .i64 k, .int .i64 fl, .str s], .fn (.func g) xs ys, .fn (.func gp) [] [], .fs 1 (ks.map eI)] F L nx nx (.tup [.agg [.int .i64 0, .int .i64 0, .int .i64 0, .int .i64 0, .bool false, .bool false, .bool false, .str []], .int .i64 2]) [] [] := by
 refine bdy Tryz.f84 ?_
 intro F3 hF1 hF2
 simp only [Tryz.f84, cx, Nat.add_zero, go_sem, meths]
 refine CallVC.sameP (contains_ok ks k (by omega)) rfl ?_
 simp only [hk, go_sem]
 repeat refine sd1 ?_
 exact PostF.rs (v0 := .tup [.agg [.int .i64 0, .int .i64 0, .int .i64 0, .int .i64 0, .bool false, .bool false, .bool false, .str []], .int .i64 2]) (.inr rfl)
theorem getData_ok {F : SF} {L nx : Nat} (s : List UInt8) (hl : s.length ≤ 1000000) (k fl : Int) (g gp : FuncId) (xs ys : List PV) (ks : List Int) (hk : (ks.any fun x => k == x) = true) (hks : ks.length ≤ 1000) (l : List PV) (hlw : l.length = 8) (hnf : nfl l = true) (rds : List Nm) (hrd : ∀ n ∈ rds, n.l ≤ L)
  (hg : OfOk g xs ys s (.agg l) s.length F rds) (hp : PutOk gp l k fl s 0) : Con Tryz.prog 84 [.agg [.int .i64 k, .int .i64 fl, .str s], .fn (.func g) xs ys, .fn (.func gp) [] [], .fs 1 (ks.map eI)] F L nx nx (.tup [.agg l, .int .i64 0]) [] rds := by
 refine bdy Tryz.f84 (hrd := hrd) ?_
 intro F3 hF1 hF2
 simp only [Tryz.f84, cx, Nat.add_zero, go_sem, meths]
 refine CallVC.sameP (contains_ok ks k (by omega)) rfl ?_
 simp only [hk, go_sem]
 repeat refine sd1 ?_
 refine CallVC.same (readData_ok s 120 [] [.ptr ⟨L + 1, 32⟩ 0 0, .ptr ⟨L + 1, 64⟩ 0 0, .ptr ⟨L + 1, 0⟩ 0 0] l hlw hnf (⟨L + 1, 32⟩ :: ⟨L + 1, 64⟩ :: ⟨L + 1, 0⟩ :: rds) (fun n hn => ?_) ?_) ?_
 ·simp only [List.mem_cons] at hn
  rcases hn with rfl | rfl | rfl | hn <;> first | exact Nat.le_refl _ | (have := hrd n hn; omega)
 ·intro F' r nx' hF' hr hFr
  have hne : ∀ (m : Nm), m.l ≤ L + 1 → m ≠ r := fun m hm e => by rw [e, hr] at hm; omega
  refine getData1_ok r ⟨L + 1, 32⟩ ⟨L + 1, 64⟩ ⟨L + 1, 0⟩ (Nat.le_of_eq hr) (by simp) (by simp) (by simp) (hne _ (Nat.le_refl _)) (hne _ (Nat.le_refl _)) (hne _ (Nat.le_refl _)) s hl k fl _ _ _ _ _ _ _ g gp xs ys l hlw hnf rds (fun n hn => ⟨by have := hrd n hn; omega, hne n (by have := hrd n hn; omega)⟩) hFr ((hF' _ (by simp)).trans (by simp; first | exact ⟨rfl, rfl, rfl⟩ | exact ⟨rfl, rfl⟩ | rfl)) ((hF' _ (by simp)).trans (by simp; first | exact ⟨rfl, rfl, rfl⟩ | exact ⟨rfl, rfl⟩ | rfl)) ((hF' _ (by simp)).trans (by simp; first | exact ⟨rfl, rfl, rfl⟩ | exact ⟨rfl, rfl⟩ | rfl)) (hg.agree fun n hn => ?_) hp
  have e5 : ∀ k, (n = (⟨L + 1, k⟩ : Nm)) = False := nm_out (hrd n hn)
  rw [hF' n (by simp [hn])]
  simp [e5, hF1 n hn]
 simp only [hlw, hnf, go_sem]
 repeat refine sd1 ?_
 exact PostF.of (p := True) (v0 := .tup [.agg l, .int .i64 0]) (.inr rfl) (by simp only [resVal, resVals, resVal1, one, go_sem]) trivial (wk_refl _ _).1 (by rw [(wk_refl (fun _ => none) _).2]; simp) (by simp only [Tx.nf, nfl, hnf]; rfl) trivial (by simp [UpdAll, keys])
theorem getData_bad {F : SF} {L nx : Nat} (s : List UInt8) (hl : s.length ≤ 1000000) (k fl : Int) (g gp : FuncId) (xs ys : List PV) (ks : List Int) (hk : (ks.any fun x => k == x) = true) (hks : ks.length ≤ 1000) (rds : List Nm) (hrd : ∀ n ∈ rds, n.l ≤ L)
  (hg : GetBad g gp xs ys s k fl 8 F rds) : Con Tryz.prog 84 [.agg [.int .i64 k, .int .i64 fl, .str s], .fn (.func g) xs ys, .fn (.func gp) [] [], .fs 1 (ks.map eI)] F L nx nx (.tup [.agg [.int .i64 0, .int .i64 0, .int .i64 0, .int .i64 0, .bool false, .bool false, .bool false, .str []], .int .i64 5]) [] rds := by
 refine bdy Tryz.f84 (hrd := hrd) ?_
 intro F3 hF1 hF2
 simp only [Tryz.f84, cx, Nat.add_zero, go_sem, meths]
 refine CallVC.sameP (contains_ok ks k (by omega)) rfl ?_
 simp only [hk, go_sem]
 repeat refine sd1 ?_
 refine CallVC.same (readData_die s 120 [] [.ptr ⟨L + 1, 32⟩ 0 0, .ptr ⟨L + 1, 64⟩ 0 0, .ptr ⟨L + 1, 0⟩ 0 0] (⟨L + 1, 32⟩ :: ⟨L + 1, 64⟩ :: ⟨L + 1, 0⟩ :: rds) (fun n hn => ?_) ?_) ?_
 ·simp only [List.mem_cons] at hn
  rcases hn with rfl | rfl | rfl | hn <;> first | exact Nat.le_refl _ | (have := hrd n hn; omega)
 ·intro F' r hF' hr hFr
  have hne : ∀ (m : Nm), m.l ≤ L + 1 → m ≠ r := fun m hm e => by rw [e, hr] at hm; omega
  have hag : ∀ n ∈ rds, F' n = F n := fun n hn => by
   have e5 : ∀ k, (n = (⟨L + 1, k⟩ : Nm)) = False := nm_out (hrd n hn)
   rw [hF' n (by simp [hn])]
   simp [e5, hF1 n hn]
  have hrd' : ∀ n ∈ rds, n.l ≤ L + 1 + 2 ∧ n ≠ r := fun n hn => ⟨by have := hrd n hn; omega, hne n (by have := hrd n hn; omega)⟩
  rcases hg with hg | ⟨l, p, hlw, hnf, hp, hg⟩ | ⟨l, k2, fl2, e2, b2, hlw, hnf, hg, hp, hb⟩
  ·exact getData1_dieOf r ⟨L + 1, 32⟩ ⟨L + 1, 64⟩ ⟨L + 1, 0⟩ (Nat.le_of_eq hr) (by simp) (by simp) (by simp) (hne _ (Nat.le_refl _)) (hne _ (Nat.le_refl _)) (hne _ (Nat.le_refl _)) s hl k fl _ _ _ _ _ _ _ g gp xs ys (List.replicate 8 (.bool false)) (by simp) (by rfl) rds hrd' hFr ((hF' _ (by simp)).trans (by simp; first | exact ⟨rfl, rfl, rfl⟩ | exact ⟨rfl, rfl⟩ | rfl)) ((hF' _ (by simp)).trans (by simp; first | exact ⟨rfl, rfl, rfl⟩ | exact ⟨rfl, rfl⟩ | rfl)) ((hF' _ (by simp)).trans (by simp; first | exact ⟨rfl, rfl, rfl⟩ | exact ⟨rfl, rfl⟩ | rfl)) (hg.agree hag)
  ·exact getData1_dieAt r ⟨L + 1, 32⟩ ⟨L + 1, 64⟩ ⟨L + 1, 0⟩ (Nat.le_of_eq hr) (by simp) (by simp) (by simp) (hne _ (Nat.le_refl _)) (hne _ (Nat.le_refl _)) (hne _ (Nat.le_refl _)) s hl k fl _ _ _ _ _ _ _ g gp xs ys l hlw hnf rds hrd' hFr ((hF' _ (by simp)).trans (by simp; first | exact ⟨rfl, rfl, rfl⟩ | exact ⟨rfl, rfl⟩ | rfl)) ((hF' _ (by simp)).trans (by simp; first | exact ⟨rfl, rfl, rfl⟩ | exact ⟨rfl, rfl⟩ | rfl)) ((hF' _ (by simp)).trans (by simp; first | exact ⟨rfl, rfl, rfl⟩ | exact ⟨rfl, rfl⟩ | rfl)) p hp (hg.agree hag)
  ·exact getData1_dieBack r ⟨L + 1, 32⟩ ⟨L + 1, 64⟩ ⟨L + 1, 0⟩ (Nat.le_of_eq hr) (by simp) (by simp) (by simp) (hne _ (Nat.le_refl _)) (hne _ (Nat.le_refl _)) (hne _ (Nat.le_refl _)) s hl k fl _ _ _ _ _ _ _ g gp xs ys l hlw hnf rds hrd' hFr ((hF' _ (by simp)).trans (by simp; first | exact ⟨rfl, rfl, rfl⟩ | exact ⟨rfl, rfl⟩ | rfl)) ((hF' _ (by simp)).trans (by simp; first | exact ⟨rfl, rfl, rfl⟩ | exact ⟨rfl, rfl⟩ | rfl)) ((hF' _ (by simp)).trans (by simp; first | exact ⟨rfl, rfl, rfl⟩ | exact ⟨rfl, rfl⟩ | rfl)) (hg.agree hag) k2 fl2 e2 b2 hp hb
 simp only [go_sem]
 repeat refine sd1 ?_
 exact PostF.rs (v0 := .tup [.agg [.int .i64 0, .int .i64 0, .int .i64 0, .int .i64 0, .bool false, .bool false, .bool false, .str []], .int .i64 5]) (.inr rfl)
theorem getSack1_ok {F : SF} {L nx : Nat} (r nof npt nc : Nm) (hr : r.l ≤ L) (hof : nof.l ≤ L) (hpt : npt.l ≤ L) (hc : nc.l ≤ L) (d1 : nof ≠ r) (d2 : npt ≠ r) (d3 : nc ≠ r) (s : List UInt8) (hl : s.length ≤ 1000000) (k fl : Int) (eo ep : TypeId) (oo op po pp oc : Bool) (g gp : FuncId) (xs ys : List PV) (l : List PV) (hlw : l.length = 4) (hnf : nfl l = true) (rds : List Nm) (hrd : ∀ n ∈ rds, n.l ≤ L ∧ n ≠ r)
  (hFr : F r = some (rdB s 0)) (hFo : F nof = some (.rows eo 1 oo po [[.fn (.func g) xs ys]])) (hFp : F npt = some (.rows ep 1 op pp [[.fn (.func gp) [] []]])) (hFc : F nc = some (.rows 34 3 oc true [[.int .i64 k, .int .i64 fl, .str s]]))
  (hg : OfOk g xs ys s (.agg l) s.length F rds) (hp : PutOk gp l k fl s 0) : Con Tryz.prog 124 [.ptr r 0 0, .ptr nof 0 0, .ptr npt 0 0, .ptr nc 0 0] F L nx nx (.agg l) [(r, .dead)] (r :: nof :: npt :: nc :: rds) := by
 refine bdy Tryz.f124 (hrd := (by intro n hn; simp at hn; rcases hn with rfl | rfl | rfl | rfl | hn <;> first | assumption | exact (hrd n hn).1)) ?_
 intro F3 hF1 hF2
 have kr : F3 r = some (rdB s 0) := (hF1 r (by simp)).trans hFr
 have ko : F3 nof = some (.rows eo 1 oo po [[.fn (.func g) xs ys]]) := (hF1 nof (by simp)).trans hFo
 have kp : F3 npt = some (.rows ep 1 op pp [[.fn (.func gp) [] []]]) := (hF1 npt (by simp)).trans hFp
 have kc : F3 nc = some (.rows 34 3 oc true [[.int .i64 k, .int .i64 fl, .str s]]) := (hF1 nc (by simp)).trans hFc
 have n1 : ∀ k, (r = (⟨L + 1, k⟩ : Nm)) = False := nm_out hr
 have n2 : ∀ k, ((⟨L + 1, k⟩ : Nm) = r) = False := nm_out' hr
 have o1 : ∀ k, (nof = (⟨L + 1, k⟩ : Nm)) = False := nm_out hof
 have o2 : ∀ k, (npt = (⟨L + 1, k⟩ : Nm)) = False := nm_out hpt
 have o3 : ∀ k, (nc = (⟨L + 1, k⟩ : Nm)) = False := nm_out hc
 have e1 : (nof = r) = False := eq_false d1
 have e2 : (npt = r) = False := eq_false d2
 have e3 : (nc = r) = False := eq_false d3
 simp only [Tryz.f124, cx, ko, o1, go_sem, meths]
 refine CallVC.same (hg _ (L + 1) r _ (fun n hn => ?_) (by omega) (fun n hn => by have := (hrd n hn).1; omega) (by simp [n1, kr])) ?_
 ·have e5 : ∀ k, (n = (⟨L + 1, k⟩ : Nm)) = False := nm_out (hrd n hn).1
  simp [e5, hF1 n (by simp [hn])]
 simp only [rdB, kr, n1, n2, hlw, hnf, Nat.add_zero, go_sem]
 repeat refine sd1 ?_
 refine CallVC.sameP must_ok rfl ?_
 simp only [kp, n2, o2, e2, go_sem]
 repeat refine sd1 ?_
 refine CallVC.sameP (hp _ _ _) rfl ?_
 simp only [kc, n2, o3, e3, go_sem]
 repeat refine sd1 ?_
 refine CallVC.sameP must_ok rfl ?_
 simp only [n2, hlw, hnf, go_sem]
 repeat refine sd1 ?_
 exact PostF.of (p := True) (v0 := .agg l) (.inr rfl) (by simp only [resVal, resVals, resVal1, one, go_sem]) trivial (wk_refl _ _).1 (by rw [(wk_refl (fun _ => none) _).2]; simp) (by simp only [Tx.nf]; exact hnf) ⟨hr, BW_dead, trivial⟩ (by simp [UpdAll, keys])
theorem getSack1_dieOf {F : SF} {L : Nat} (r nof npt nc : Nm) (hr : r.l ≤ L) (hof : nof.l ≤ L) (hpt : npt.l ≤ L) (hc : nc.l ≤ L) (d1 : nof ≠ r) (d2 : npt ≠ r) (d3 : nc ≠ r) (s : List UInt8) (hl : s.length ≤ 1000000) (k fl : Int) (eo ep : TypeId) (oo op po pp oc : Bool) (g gp : FuncId) (xs ys : List PV) (l : List PV) (hlw : l.length = 4) (hnf : nfl l = true) (rds : List Nm) (hrd : ∀ n ∈ rds, n.l ≤ L ∧ n ≠ r)
  (hFr : F r = some (rdB s 0)) (hFo : F nof = some (.rows eo 1 oo po [[.fn (.func g) xs ys]])) (hFp : F npt = some (.rows ep 1 op pp [[.fn (.func gp) [] []]])) (hFc : F nc = some (.rows 34 3 oc true [[.int .i64 k, .int .i64 fl, .str s]]))
  (hg : OfDie g xs ys s F rds) : DCon Tryz.prog chM 124 [.ptr r 0 0, .ptr nof 0 0, .ptr npt 0 0, .ptr nc 0 0] F L [(r, .dead)] (r :: nof :: npt :: nc :: rds) := by
 refine DCon.body (cxOk (L + 1)) rfl rfl (fn := Tryz.f124) (c := Tryz.f124.body.getD .skip) (by kernel_rfl) (by rfl) (by kernel_rfl) rfl  (by intro n hn; simp at hn; rcases hn with rfl | rfl | rfl | rfl | hn <;> first | assumption | exact (hrd n hn).1) ?_
 intro F3 hF1 hF2
 have kr : F3 r = some (rdB s 0) := (hF1 r (by simp)).trans hFr
 have ko : F3 nof = some (.rows eo 1 oo po [[.fn (.func g) xs ys]]) := (hF1 nof (by simp)).trans hFo
 have kp : F3 npt = some (.rows ep 1 op pp [[.fn (.func gp) [] []]]) := (hF1 npt (by simp)).trans hFp
 have kc : F3 nc = some (.rows 34 3 oc true [[.int .i64 k, .int .i64 fl, .str s]]) := (hF1 nc (by simp)).trans hFc
 have n1 : ∀ k, (r = (⟨L + 1, k⟩ : Nm)) = False := nm_out hr
 have n2 : ∀ k, ((⟨L + 1, k⟩ : Nm) = r) = False := nm_out' hr
 have o1 : ∀ k, (nof = (⟨L + 1, k⟩ : Nm)) = False := nm_out hof
 have o2 : ∀ k, (npt = (⟨L + 1, k⟩ : Nm)) = False := nm_out hpt
 have o3 : ∀ k, (nc = (⟨L + 1, k⟩ : Nm)) = False := nm_out hc
 have e1 : (nof = r) = False := eq_false d1
 have e2 : (npt = r) = False := eq_false d2
 have e3 : (nc = r) = False := eq_false d3
 simp only [Tryz.f124, cx, ko, o1, go_sem, meths]
 refine CallVD.same rfl (hg _ (L + 1) r (fun n hn => ?_) (by omega) (fun n hn => by have := (hrd n hn).1; omega) (by simp [Tx.look, n1, kr])) ?_
 ·have e5 : ∀ k, (n = (⟨L + 1, k⟩ : Nm)) = False := nm_out (hrd n hn).1
  simp [Tx.look, e5, hF1 n (by simp [hn])]
 exact .dead (ns := [r]) (by simpa using hr) (by simp [UpdAll, updH, setH, n1, n2])
theorem getSack1_dieAt {F : SF} {L : Nat} (r nof npt nc : Nm) (hr : r.l ≤ L) (hof : nof.l ≤ L) (hpt : npt.l ≤ L) (hc : nc.l ≤ L) (d1 : nof ≠ r) (d2 : npt ≠ r) (d3 : nc ≠ r) (s : List UInt8) (hl : s.length ≤ 1000000) (k fl : Int) (eo ep : TypeId) (oo op po pp oc : Bool) (g gp : FuncId) (xs ys : List PV) (l : List PV) (hlw : l.length = 4) (hnf : nfl l = true) (rds : List Nm) (hrd : ∀ n ∈ rds, n.l ≤ L ∧ n ≠ r)
  (hFr : F r = some (rdB s 0)) (hFo : F nof = some (.rows eo 1 oo po [[.fn (.func g) xs ys]])) (hFp : F npt = some (.rows ep 1 op pp [[.fn (.func gp) [] []]])) (hFc : F nc = some (.rows 34 3 oc true [[.int .i64 k, .int .i64 fl, .str s]]))
  (p : Nat) (hps : p ≠ s.length) (hg : OfOk g xs ys s (.agg l) p F rds) : DCon Tryz.prog chM 124 [.ptr r 0 0, .ptr nof 0 0, .ptr npt 0 0, .ptr nc 0 0] F L [(r, .dead)] (r :: nof :: npt :: nc :: rds) := by
 refine DCon.body (cxOk (L + 1)) rfl rfl (fn := Tryz.f124) (c := Tryz.f124.body.getD .skip) (by kernel_rfl) (by rfl) (by kernel_rfl) rfl  (by intro n hn; simp at hn; rcases hn with rfl | rfl | rfl | rfl | hn <;> first | assumption | exact (hrd n hn).1) ?_
 intro F3 hF1 hF2
 have kr : F3 r = some (rdB s 0) := (hF1 r (by simp)).trans hFr
 have ko : F3 nof = some (.rows eo 1 oo po [[.fn (.func g) xs ys]]) := (hF1 nof (by simp)).trans hFo
 have kp : F3 npt = some (.rows ep 1 op pp [[.fn (.func gp) [] []]]) := (hF1 npt (by simp)).trans hFp
 have kc : F3 nc = some (.rows 34 3 oc true [[.int .i64 k, .int .i64 fl, .str s]]) := (hF1 nc (by simp)).trans hFc
 have n1 : ∀ k, (r = (⟨L + 1, k⟩ : Nm)) = False := nm_out hr
 have n2 : ∀ k, ((⟨L + 1, k⟩ : Nm) = r) = False := nm_out' hr
 have o1 : ∀ k, (nof = (⟨L + 1, k⟩ : Nm)) = False := nm_out hof
 have o2 : ∀ k, (npt = (⟨L + 1, k⟩ : Nm)) = False := nm_out hpt
 have o3 : ∀ k, (nc = (⟨L + 1, k⟩ : Nm)) = False := nm_out hc
 have e1 : (nof = r) = False := eq_false d1
 have e2 : (npt = r) = False := eq_false d2
 have e3 : (nc = r) = False := eq_false d3
 simp only [Tryz.f124, cx, ko, o1, go_sem, meths]
 refine CallVD.live (CallVC.same (hg _ (L + 1) r _ (fun n hn => ?_) (by omega) (fun n hn => by have := (hrd n hn).1; omega) (by simp [n1, kr])) ?_)
 ·have e5 : ∀ k, (n = (⟨L + 1, k⟩ : Nm)) = False := nm_out (hrd n hn).1
  simp [e5, hF1 n (by simp [hn])]
 simp only [rdB, kr, n1, n2, hlw, hnf, Nat.add_zero, go_sem]
 have f1 : ((p : Int) == (s.length : Int)) = false := eqF (by omega)
 repeat refine sd1 ?_
 refine RegVD.dieAt 12 [] rfl (by simp) rfl (by kernel_rfl) ?_
 simp only [f1, rdB, kr, n1, Nat.add_zero, go_sem]
 refine dieX.same must_die ?_
 simp only [go_sem]
 repeat refine sd1 ?_
 exact fun nz => PostD.all (ns := [r]) rfl (by simpa using hr) (by simp [UpdAll, n2]) (by simp [keys])
theorem getSack1_dieBack {F : SF} {L : Nat} (r nof npt nc : Nm) (hr : r.l ≤ L) (hof : nof.l ≤ L) (hpt : npt.l ≤ L) (hc : nc.l ≤ L) (d1 : nof ≠ r) (d2 : npt ≠ r) (d3 : nc ≠ r) (s : List UInt8) (hl : s.length ≤ 1000000) (k fl : Int) (eo ep : TypeId) (oo op po pp oc : Bool) (g gp : FuncId) (xs ys : List PV) (l : List PV) (hlw : l.length = 4) (hnf : nfl l = true) (rds : List Nm) (hrd : ∀ n ∈ rds, n.l ≤ L ∧ n ≠ r)
  (hFr : F r = some (rdB s 0)) (hFo : F nof = some (.rows eo 1 oo po [[.fn (.func g) xs ys]])) (hFp : F npt = some (.rows ep 1 op pp [[.fn (.func gp) [] []]])) (hFc : F nc = some (.rows 34 3 oc true [[.int .i64 k, .int .i64 fl, .str s]]))
  (hg : OfOk g xs ys s (.agg l) s.length F rds) (k2 fl2 e2 : Int) (b2 : List UInt8) (hp : PutOk gp l k2 fl2 b2 e2) (hne : ¬(e2 = 0 ∧ k2 = k ∧ fl2 = fl ∧ b2 = s)) : DCon Tryz.prog chM 124 [.ptr r 0 0, .ptr nof 0 0, .ptr npt 0 0, .ptr nc 0 0] F L [(r, .dead)] (r :: nof :: npt :: nc :: rds) := by
 refine DCon.body (cxOk (L + 1)) rfl rfl (fn := Tryz.f124) (c := Tryz.f124.body.getD .skip) (by kernel_rfl) (by rfl) (by kernel_rfl) rfl  (by intro n hn; simp at hn; rcases hn with rfl | rfl | rfl | rfl | hn <;> first | assumption | exact (hrd n hn).1) ?_
 intro F3 hF1 hF2
 have kr : F3 r = some (rdB s 0) := (hF1 r (by simp)).trans hFr
 have ko : F3 nof = some (.rows eo 1 oo po [[.fn (.func g) xs ys]]) := (hF1 nof (by simp)).trans hFo
 have kp : F3 npt = some (.rows ep 1 op pp [[.fn (.func gp) [] []]]) := (hF1 npt (by simp)).trans hFp
 have kc : F3 nc = some (.rows 34 3 oc true [[.int .i64 k, .int .i64 fl, .str s]]) := (hF1 nc (by simp)).trans hFc
 have n1 : ∀ k, (r = (⟨L + 1, k⟩ : Nm)) = False := nm_out hr
 have n2 : ∀ k, ((⟨L + 1, k⟩ : Nm) = r) = False := nm_out' hr
 have o1 : ∀ k, (nof = (⟨L + 1, k⟩ : Nm)) = False := nm_out hof
 have o2 : ∀ k, (npt = (⟨L + 1, k⟩ : Nm)) = False := nm_out hpt
 have o3 : ∀ k, (nc = (⟨L + 1, k⟩ : Nm)) = False := nm_out hc
 have e1 : (nof = r) = False := eq_false d1
 have e2' : (npt = r) = False := eq_false d2
 have e3 : (nc = r) = False := eq_false d3
 simp only [Tryz.f124, cx, ko, o1, go_sem, meths]
 refine CallVD.live (CallVC.same (hg _ (L + 1) r _ (fun n hn => ?_) (by omega) (fun n hn => by have := (hrd n hn).1; omega) (by simp [n1, kr])) ?_)
 ·have e5 : ∀ k, (n = (⟨L + 1, k⟩ : Nm)) = False := nm_out (hrd n hn).1
  simp [e5, hF1 n (by simp [hn])]
 simp only [rdB, kr, n1, n2, hlw, hnf, Nat.add_zero, go_sem]
 repeat refine sd1 ?_
 refine RegVD.live ?_
 repeat refine sd1 ?_
 refine CallVC.sameP must_ok rfl ?_
 simp only [kp, n2, o2, e2', go_sem]
 repeat refine sd1 ?_
 refine CallVD.live (CallVC.sameP (hp _ _ _) rfl ?_)
 simp only [kc, n2, o3, e3, go_sem]
 repeat refine sd1 ?_
 refine brB.mk (fun h => ?_) (fun h => ?_)
 ·have h1 : e2 = 0 := by simpa using h
  have f2 : (k2 == k && (fl2 == fl && b2 == s)) = false := by
   rw [Bool.eq_false_iff]
   intro h2
   simp only [Bool.and_eq_true, beq_iff_eq] at h2
   exact hne ⟨h1, h2.1, h2.2.1, h2.2.2⟩
  simp only [f2]
  refine CallVD.same rfl must_die ?_
  exact .dead (ns := [r]) (by simpa using hr) (by simp [UpdAll, updH, n2])
 ·simp only [h, Bool.not_true, go_sem]
  refine CallVD.same rfl must_die ?_
  exact .dead (ns := [r]) (by simpa using hr) (by simp [UpdAll, updH, n2])
theorem getSack_kind {F : SF} {L nx : Nat} (s : List UInt8) (k fl : Int) (g gp : FuncId) (xs ys : List PV) (ks : List Int) (hk : (ks.any fun x => k == x) = false) (hks : ks.length ≤ 1000) :
  Con Tryz.prog 89 [.agg [.int .i64 k, .int .i64 fl, .str s], .fn (.func g) xs ys, .fn (.func gp) [] [], .fs 1 (ks.map eI)] F L nx nx (.tup [.agg [.int .i64 0, .int .i64 0, .nilS, .nilS], .int .i64 2]) [] [] := by
 refine bdy Tryz.f89 ?_
 intro F3 hF1 hF2
 simp only [Tryz.f89, cx, Nat.add_zero, go_sem, meths]
 refine CallVC.sameP (contains_ok ks k (by omega)) rfl ?_
 simp only [hk, go_sem]
 repeat refine sd1 ?_
 exact PostF.rs (v0 := .tup [.agg [.int .i64 0, .int .i64 0, .nilS, .nilS], .int .i64 2]) (.inr rfl)
theorem getSack_ok {F : SF} {L nx : Nat} (s : List UInt8) (hl : s.length ≤ 1000000) (k fl : Int) (g gp : FuncId) (xs ys : List PV) (ks : List Int) (hk : (ks.any fun x => k == x) = true) (hks : ks.length ≤ 1000) (l : List PV) (hlw : l.length = 4) (hnf : nfl l = true) (rds : List Nm) (hrd : ∀ n ∈ rds, n.l ≤ L)
  (hg : OfOk g xs ys s (.agg l) s.length F rds) (hp : PutOk gp l k fl s 0) : Con Tryz.prog 89 [.agg [.int .i64 k, .int .i64 fl, .str s], .fn (.func g) xs ys, .fn (.func gp) [] [], .fs 1 (ks.map eI)] F L nx nx (.tup [.agg l, .int .i64 0]) [] rds := by
 refine bdy Tryz.f89 (hrd := hrd) ?_
 intro F3 hF1 hF2
 simp only [Tryz.f89, cx, Nat.add_zero, go_sem, meths]
 refine CallVC.sameP (contains_ok ks k (by omega)) rfl ?_
 simp only [hk, go_sem]
 repeat refine sd1 ?_
 refine CallVC.same (readSack_ok s 124 [] [.ptr ⟨L + 1, 32⟩ 0 0, .ptr ⟨L + 1, 64⟩ 0 0, .ptr ⟨L + 1, 0⟩ 0 0] l hlw hnf (⟨L + 1, 32⟩ :: ⟨L + 1, 64⟩ :: ⟨L + 1, 0⟩ :: rds) (fun n hn => ?_) ?_) ?_
 ·simp only [List.mem_cons] at hn
  rcases hn with rfl | rfl | rfl | hn <;> first | exact Nat.le_refl _ | (have := hrd n hn; omega)
 ·intro F' r nx' hF' hr hFr
  have hne : ∀ (m : Nm), m.l ≤ L + 1 → m ≠ r := fun m hm e => by rw [e, hr] at hm; omega
  refine getSack1_ok r ⟨L + 1, 32⟩ ⟨L + 1, 64⟩ ⟨L + 1, 0⟩ (Nat.le_of_eq hr) (by simp) (by simp) (by simp) (hne _ (Nat.le_refl _)) (hne _ (Nat.le_refl _)) (hne _ (Nat.le_refl _)) s hl k fl _ _ _ _ _ _ _ g gp xs ys l hlw hnf rds (fun n hn => ⟨by have := hrd n hn; omega, hne n (by have := hrd n hn; omega)⟩) hFr ((hF' _ (by simp)).trans (by simp; first | exact ⟨rfl, rfl, rfl⟩ | exact ⟨rfl, rfl⟩ | rfl)) ((hF' _ (by simp)).trans (by simp; first | exact ⟨rfl, rfl, rfl⟩ | exact ⟨rfl, rfl⟩ | rfl)) ((hF' _ (by simp)).trans (by simp; first | exact ⟨rfl, rfl, rfl⟩ | exact ⟨rfl, rfl⟩ | rfl)) (hg.agree fun n hn => ?_) hp
  have e5 : ∀ k, (n = (⟨L + 1, k⟩ : Nm)) = False := nm_out (hrd n hn)
  rw [hF' n (by simp [hn])]
  simp [e5, hF1 n hn]
 simp only [hlw, hnf, go_sem]
 repeat refine sd1 ?_
 exact PostF.of (p := True) (v0 := .tup [.agg l, .int .i64 0]) (.inr rfl) (by simp only [resVal, resVals, resVal1, one, go_sem]) trivial (wk_refl _ _).1 (by rw [(wk_refl (fun _ => none) _).2]; simp) (by simp only [Tx.nf, nfl, hnf]; rfl) trivial (by simp [UpdAll, keys])
theorem getSack_bad {F : SF} {L nx : Nat} (s : List UInt8) (hl : s.length ≤ 1000000) (k fl : Int) (g gp : FuncId) (xs ys : List PV) (ks : List Int) (hk : (ks.any fun x => k == x) = true) (hks : ks.length ≤ 1000) (rds : List Nm) (hrd : ∀ n ∈ rds, n.l ≤ L)
  (hg : GetBad g gp xs ys s k fl 4 F rds) : Con Tryz.prog 89 [.agg [.int .i64 k, .int .i64 fl, .str s], .fn (.func g) xs ys, .fn (.func gp) [] [], .fs 1 (ks.map eI)] F L nx nx (.tup [.agg [.int .i64 0, .int .i64 0, .nilS, .nilS], .int .i64 5]) [] rds := by
 refine bdy Tryz.f89 (hrd := hrd) ?_
 intro F3 hF1 hF2
 simp only [Tryz.f89, cx, Nat.add_zero, go_sem, meths]
 refine CallVC.sameP (contains_ok ks k (by omega)) rfl ?_
 simp only [hk, go_sem]
 repeat refine sd1 ?_
 refine CallVC.same (readSack_die s 124 [] [.ptr ⟨L + 1, 32⟩ 0 0, .ptr ⟨L + 1, 64⟩ 0 0, .ptr ⟨L + 1, 0⟩ 0 0] (⟨L + 1, 32⟩ :: ⟨L + 1, 64⟩ :: ⟨L + 1, 0⟩ :: rds) (fun n hn => ?_) ?_) ?_
 ·simp only [List.mem_cons] at hn
  rcases hn with rfl | rfl | rfl | hn <;> first | exact Nat.le_refl _ | (have := hrd n hn; omega)
 ·intro F' r hF' hr hFr
  have hne : ∀ (m : Nm), m.l ≤ L + 1 → m ≠ r := fun m hm e => by rw [e, hr] at hm; omega
  have hag : ∀ n ∈ rds, F' n = F n := fun n hn => by
   have e5 : ∀ k, (n = (⟨L + 1, k⟩ : Nm)) = False := nm_out (hrd n hn)
   rw [hF' n (by simp [hn])]
   simp [e5, hF1 n hn]
  have hrd' : ∀ n ∈ rds, n.l ≤ L + 1 + 2 ∧ n ≠ r := fun n hn => ⟨by have := hrd n hn; omega, hne n (by have := hrd n hn; omega)⟩
  rcases hg with hg | ⟨l, p, hlw, hnf, hp, hg⟩ | ⟨l, k2, fl2, e2, b2, hlw, hnf, hg, hp, hb⟩
  ·exact getSack1_dieOf r ⟨L + 1, 32⟩ ⟨L + 1, 64⟩ ⟨L + 1, 0⟩ (Nat.le_of_eq hr) (by simp) (by simp) (by simp) (hne _ (Nat.le_refl _)) (hne _ (Nat.le_refl _)) (hne _ (Nat.le_refl _)) s hl k fl _ _ _ _ _ _ _ g gp xs ys (List.replicate 4 (.bool false)) (by simp) (by rfl) rds hrd' hFr ((hF' _ (by simp)).trans (by simp; first | exact ⟨rfl, rfl, rfl⟩ | exact ⟨rfl, rfl⟩ | rfl)) ((hF' _ (by simp)).trans (by simp; first | exact ⟨rfl, rfl, rfl⟩ | exact ⟨rfl, rfl⟩ | rfl)) ((hF' _ (by simp)).trans (by simp; first | exact ⟨rfl, rfl, rfl⟩ | exact ⟨rfl, rfl⟩ | rfl)) (hg.agree hag)
  ·exact getSack1_dieAt r ⟨L + 1, 32⟩ ⟨L + 1, 64⟩ ⟨L + 1, 0⟩ (Nat.le_of_eq hr) (by simp) (by simp) (by simp) (hne _ (Nat.le_refl _)) (hne _ (Nat.le_refl _)) (hne _ (Nat.le_refl _)) s hl k fl _ _ _ _ _ _ _ g gp xs ys l hlw hnf rds hrd' hFr ((hF' _ (by simp)).trans (by simp; first | exact ⟨rfl, rfl, rfl⟩ | exact ⟨rfl, rfl⟩ | rfl)) ((hF' _ (by simp)).trans (by simp; first | exact ⟨rfl, rfl, rfl⟩ | exact ⟨rfl, rfl⟩ | rfl)) ((hF' _ (by simp)).trans (by simp; first | exact ⟨rfl, rfl, rfl⟩ | exact ⟨rfl, rfl⟩ | rfl)) p hp (hg.agree hag)
  ·exact getSack1_dieBack r ⟨L + 1, 32⟩ ⟨L + 1, 64⟩ ⟨L + 1, 0⟩ (Nat.le_of_eq hr) (by simp) (by simp) (by simp) (hne _ (Nat.le_refl _)) (hne _ (Nat.le_refl _)) (hne _ (Nat.le_refl _)) s hl k fl _ _ _ _ _ _ _ g gp xs ys l hlw hnf rds hrd' hFr ((hF' _ (by simp)).trans (by simp; first | exact ⟨rfl, rfl, rfl⟩ | exact ⟨rfl, rfl⟩ | rfl)) ((hF' _ (by simp)).trans (by simp; first | exact ⟨rfl, rfl, rfl⟩ | exact ⟨rfl, rfl⟩ | rfl)) ((hF' _ (by simp)).trans (by simp; first | exact ⟨rfl, rfl, rfl⟩ | exact ⟨rfl, rfl⟩ | rfl)) (hg.agree hag) k2 fl2 e2 b2 hp hb
 simp only [go_sem]
 repeat refine sd1 ?_
 exact PostF.rs (v0 := .tup [.agg [.int .i64 0, .int .i64 0, .nilS, .nilS], .int .i64 5]) (.inr rfl)
theorem chunks_ok {F : SF} {L nx : Nat} (r : Nm) (hr : r.l ≤ L) (hrx : r.l < L ∨ r.i < nx) : Con Tryz.prog 74 [.ptr r 0 0] F L nx (nx + 1) (.fn (.func 114) [] [.ptr ⟨L, nx⟩ 0 0]) [(⟨L, nx⟩, .rows 140 1 true false [[.ptr r 0 0]])] [] := by
 refine bdyN Tryz.f74 ?_
 intro F3 hF1 hF2
 simp only [Tryz.f74, cx, go_sem, meths]
 have n1 : ∀ k, (r = (⟨L + 1, k⟩ : Nm)) = False := nm_out hr
 refine .now (PostN.val [0] (.inr rfl) (by simp) (p := True) (v0 := .fn (.func 114) [] [.ptr ⟨L + 1, 0⟩ 0 0]) ?_ trivial ?_ ?_ ⟨Nat.le_refl _, ?_, trivial⟩ ?_)
 ·simp only [resVal, resVals, resVal1, one, go_sem]
 ·simp [nmA, nmAL, Dn]
 ·simp [Tx.rn, Tx.rnL, sg, List.idxOf, List.findIdx, List.findIdx.go]
 ·rw [kp_at0 (by simp)]
  exact .ren (by simp [Tx.look]; rfl) (by simp [rowsNm, nmA, nmAL, Dn]; omega) (by simp [Tx.rn, Tx.rnL, sg_out hr])
 ·simp [UpdAll, keys]
noncomputable def cxz (L l : Nat) : Cx := ⟨Tryz.prog, tys, meths, false, L, some l, [], [], false, [], fun _ => False⟩
theorem cxzOk (L l : Nat) : (cxz L l).Ok := ⟨tysOk, fieldsOk, mixedOk, methsOk⟩
theorem decode1_ok {F : SF} {L nx : Nat} (r nc : Nm) (hr : r.l ≤ L) (hc : nc.l ≤ L) (hne : nc ≠ r) (s : List UInt8) (hl : s.length ≤ 1200) (h16 : 12 ≤ s.length) (oc : Bool) (hFr : F r = some (rdB s 0)) (hFc : F nc = some (.rows 9 1 oc true [[.str s]]))
  (pos len : Nat → Nat) (N : Nat) (hN : N ≤ 3000) (hp0 : pos 0 = 12) (hat : ∀ i, i < N → CkAt s (pos i) (len i)) (hnx : ∀ i, i < N → pos (i + 1) = ckNx (pos i) (len i)) (hend : pos N = s.length) (p : Pkx) (hpk : p = ⟨getB (s.take 2), getB ((s.drop 2).take 2), getB ((s.drop 4).take 4), (List.range N).map fun j => ckOf s (pos j) (len j)⟩)
  (hok : p.ok = true) (hsum : sumS s = s) : Con Tryz.prog 71 [.ptr r 0 0, .ptr nc 0 0] F L nx nx (.agg p.row) [(r, .dead)] [r, nc] := by
 refine bdy Tryz.f71 (hrd := (by simp; omega)) ?_
 intro F3 hF1 hF2
 have kr : F3 r = some (rdB s 0) := (hF1 r (by simp)).trans hFr
 have kc : F3 nc = some (.rows 9 1 oc true [[.str s]]) := (hF1 nc (by simp)).trans hFc
 have n1 : ∀ k, (r = (⟨L + 1, k⟩ : Nm)) = False := nm_out hr
 have n2 : ∀ k, ((⟨L + 1, k⟩ : Nm) = r) = False := nm_out' hr
 have o1 : ∀ k, (nc = (⟨L + 1, k⟩ : Nm)) = False := nm_out hc
 have o2 : ∀ k, ((⟨L + 1, k⟩ : Nm) = nc) = False := nm_out' hc
 have e1 : (nc = r) = False := eq_false hne
 have e2 : (r = nc) = False := eq_false (Ne.symm hne)
 have h32 : r.l ≤ L + 1 := by omega
 simp only [Tryz.f71, cx, go_sem, meths]
 refine CallVC.same (number_ok r h32 s 0 2 2 rfl (by omega) (by omega) (by omega) (by omega) (by simp [rdB, kr, n1])) ?_
 simp only [rdB, n1, go_sem]
 refine CallVC.same (number_ok r h32 s 2 2 2 rfl (by omega) (by omega) (by omega) (by omega) (by simp [rdB, n1])) ?_
 simp only [rdB, n1, go_sem]
 refine CallVC.same (number_ok r h32 s 4 4 4 rfl (by omega) (by omega) (by omega) (by omega) (by simp [rdB, n1])) ?_
 simp only [rdB, n1, n2, go_sem]
 refine CallVC.same (rtake_ok r h32 s 8 4 4 rfl (by omega) (by omega) (by simp [rdB, n1])) ?_
 simp only [rdB, n1, go_sem]
 refine CallVC.same (chunks_ok r h32 (by omega)) ?_
 simp only [n2, go_sem]
 refine rangeK.intro (v := .tup []) (top := 290) (rd := [⟨L + 1, 288⟩, r, ⟨L + 1, 160⟩]) (upd := [(r, rdB s s.length), (⟨L + 1, 160⟩, .rows 24 4 true false [pkV (getB (s.take 2)) (getB ((s.drop 2).take 2)) (getB ((s.drop 4).take 4)) (.sl ⟨L + 1, 289⟩ 0 N)]), (⟨L + 1, 289⟩, .rows 34 3 true true ((List.range N).map fun j => (ckOf s (pos j) (len j)).row))]) (f := 114) (fl := []) (cl := [.ptr ⟨L + 1, 288⟩ 0 0]) (by simp only [evalT, List.getD_cons_zero, List.getD_cons_succ]) rfl ⟨Tryz.f114, by kernel_rfl, by rfl, by kernel_rfl⟩ [none, none, none, none, some (.ptr ⟨L + 1, 160⟩ 0 0), none, none, none, none, none, none, none, none, none, none, none, none, none, none, none, none, none, none, none, none, none, none, none, none, none, none, none, none, none, none] ?_ ?_ ?_
 ·simp only [go_sem, subT, and_self]
 ·intro y h1 h2 h3 h4
  refine chunks1_ok (L := L + 1) (nx := 289) s (by omega) ⟨L + 1, 288⟩ r ⟨L + 1, 160⟩ (by simp) (.inl (by omega)) (.inr ⟨rfl, by simp⟩) (by simp [n2]) (by simp) (by simp [n1]) 140 true false (by simp [Tx.look, n2]) pos len N (by rw [hp0]; simp [Tx.look, n1, rdB]) (getB (s.take 2)) (getB ((s.drop 2).take 2)) (getB ((s.drop 4).take 4)) (by simp [Tx.look, n2, pkV]) hat hnx hend y ?_
  ·intro F4 i q nx3 hi hFd hFq hq
   obtain ⟨o4, p4, hFd, ho4⟩ := hFd
   subst ho4
   obtain ⟨rows, hrows⟩ : ∃ x, x = (List.range i).map fun j => (ckOf s (pos j) (len j)).row := ⟨_, rfl⟩
   have hrl : rows.length = i := by rw [hrows]; simp
   have hrs : ((List.range (i + 1)).map fun j => (ckOf s (pos j) (len j)).row) = rows ++ [(ckOf s (pos i) (len i)).row] := by rw [hrows, List.range_succ]; simp
   rw [hrs]
   rw [← hrows] at hFq
   obtain ⟨ck, hck⟩ : ∃ x, x = ckOf s (pos i) (len i) := ⟨_, rfl⟩
   rw [← hck]
   refine YCon.body (cxzOk (L + 3) y.l) (by rfl) (by rfl) (k := 1) (by rfl) (by simp) (by rw [h1]; rfl) (by rw [h1, h4]; simp) ?_
   intro F5 hF5 hF6
   have q1 := (hF5 ⟨L + 1, 160⟩ (by simp)).trans hFd
   have q2 := (hF5 ⟨L + 1 + 1, q⟩ (by simp)).trans hFq
   have z1 : ∀ k, ((⟨L + 2 + 1, k⟩ : Nm) = ⟨L + 1, 160⟩) = False := fun k => by simp
   have z2 : ∀ k, ((⟨L + 1, 160⟩ : Nm) = ⟨L + 2 + 1, k⟩) = False := fun k => by simp
   have z3 : ∀ k, ((⟨L + 2 + 1, k⟩ : Nm) = ⟨L + 1 + 1, q⟩) = False := fun k => by simp
   have z4 : ∀ k, ((⟨L + 1 + 1, q⟩ : Nm) = ⟨L + 2 + 1, k⟩) = False := fun k => by simp
   have z5 : ((⟨L + 1 + 1, q⟩ : Nm) = ⟨L + 1, 160⟩) = False := by simp
   have z6 : ((⟨L + 1, 160⟩ : Nm) = ⟨L + 1 + 1, q⟩) = False := by simp
   have z7 : ∀ k, ((⟨L + 1 + 1, q⟩ : Nm) == ⟨L + 2 + 1, k⟩) = false := fun k => by simp
   rw [h1, h2, h3, h4]
   simp only [setPs, List.zip_cons_cons, List.zip_nil_right, q1, q2, z2, z3, z4, z6, z7, cxz, pkV, Ckx.row, hrl, Nat.add_assoc, go_sem, meths]
   refine ⟨⟨by omega, by omega⟩, rfl, _, Sub.refl _ _ _, [192], rfl, by simp, ?_, ?_⟩
   ·refine ⟨by simp, ?_, by simp, ?_, Nat.le_refl _, ?_, trivial⟩
    ·rw [kp_out (.inl (by simp))]
     exact .ren (by simp [Tx.look, z2, z6]; rfl) (by simp [rowsNm, nmA, nmAL, Dn]) (by simp [Tx.rn, Tx.rnL, sg, List.idxOf, List.findIdx, List.findIdx.go])
    ·rw [kp_out (.inr (.inl (by simpa using hq)))]
     exact BN_dead
    ·rw [kp_at0 (by simp)]
     exact .pure (by simp [Tx.look, z3])
   ·simp [UpdAll, keys]
 have hrows : ((List.range N).map fun j => (ckOf s (pos j) (len j)).row) = p.cs.map Ckx.row := by rw [hpk]; simp
 have hcl : p.cs.length = N := by rw [hpk]; simp
 have hprow : p.row = [.int .i64 (getB (s.take 2)), .int .i64 (getB ((s.drop 2).take 2)), .int .i64 (getB ((s.drop 4).take 4)), .fs 3 (p.cs.map Ckx.row)] := by rw [hpk]; rfl
 have hbl : ∀ c ∈ p.cs, c.bd.length ≤ 1000000 := by
  intro c hcm
  rw [hpk] at hcm
  obtain ⟨j, _, rfl⟩ := List.mem_map.1 hcm
  simp only [ckOf, List.length_take, List.length_drop]; omega
 have hchk := fun F L nx => pkCheck_ok (F := F) (L := L) (nx := nx) p (by omega) hbl
 rw [hok, if_pos rfl] at hchk
 have hsm := fun F L nx => cSum_ok (F := F) (L := L) (nx := nx) s h16 (by omega)
 rw [hsum] at hsm
 rw [hrows]
 simp only [pkV, rdB, n1, n2, go_sem]
 refine ⟨by kernel_rfl, ?_⟩
 refine CallVC.gen (args2 := [.agg p.row]) (by rw [hprow]; simp [Wk, WkL, n2, List.take_of_length_le, hcl]) (hchk _ _ _) ?_
 rw [hprow]
 simp only [wkNL, wkN, unown, n2, o1, e1, kc, go_sem]
 have hss : (s == s) = true := by simp
 refine CallVC.same (hsm _ _ _) ?_
 simp only [hss, o1, e1, kc, go_sem]
 refine CallVC.same must_ok ?_
 simp only [n2, go_sem]
 refine ⟨okDyn_num (fun x => if x = nc then 1 else x.i) (by simp only [numF, List.map, o2, if_true, if_false]; kernel_rfl), ?_⟩
 exact PostF.of (p := True) (v0 := .agg [.int .i64 (getB (s.take 2)), .int .i64 (getB ((s.drop 2).take 2)), .int .i64 (getB ((s.drop 4).take 4)), .sl ⟨L + 1, 289⟩ 0 N]) (.inr rfl) (by simp only [resVal, resVals, resVal1, one, go_sem]) trivial (by simp [Wk, WkL, n2, List.take_of_length_le, hcl, Tx.look]) (by simp [wkN, wkNL]) (by simp [Tx.nf, nfl]) ⟨hr, BW_dead, trivial⟩ (by simp [UpdAll, keys])
end Go.Proofs.YtaacfnngodhecaaGreatDoor
end
section
namespace Go.Tx
theorem rangeK.die {C : Cx} {F0 : SF} {g : Operand} {ps : Array Tmp} {assign body : Code} {st : St} {Q : Exit → St → Prop} {f : FuncId} {fl cl : List PV} (hdi : C.dies = true) (hg : evalT st.t g = some (.fn (.func f) fl cl)) (hro : C.ro = none) (hfn : ∃ fn, C.P.funcs[f]? = some fn ∧ fn.body.isNone = false ∧ (fn.name == "runtime.NumGoroutine") = false)
  {upd : List (Nm × SBlk)} {rd : List Nm} (t0 : List (Option PV)) (ht : subT st.t t0) (hc : ∀ y : YRec, y.R.params = ps → y.R.assign = assign → y.R.body = body → y.t = t0 → IDCon C.P [y] C.ch f (fl ++ [.fn (.yield y.l) [] []] ++ cl) (look F0 st.H) C.L upd rd)
  (hq : C.dq ⟨st.t, updH st.H upd, st.nx⟩) : rangeK C F0 g ps assign body st Q := by
 unfold rangeK
 refine RangeVD.die hdi ?_
 unfold RangeDie
 rw [hg]
 obtain ⟨h1, h2⟩ := subT_spec ht
 refine ⟨hro, hfn, t0, upd, rd, ⟨h1.symm, fun i v hv => ?_⟩, hc, hq⟩
 simp only [TF, List.getD_eq_getElem?_getD] at hv ⊢
 cases hx : t0[i]? with
 | none => rw [hx] at hv; cases hv
 | some x => rw [hx] at hv; simp at hv; subst hv; rw [h2 i v hx]; rfl
end Go.Tx
end
section
namespace Go.Proofs.YtaacfnngodhecaaGreatDoor
open Go.Tx
set_option maxRecDepth 100000
set_option maxHeartbeats 2000000
theorem decode1_dieC {F : SF} {L : Nat} (r nc : Nm) (hr : r.l ≤ L) (hc : nc.l ≤ L) (hne : nc ≠ r) (s : List UInt8) (hl : s.length ≤ 1200) (h16 : 12 ≤ s.length) (oc : Bool) (hFr : F r = some (rdB s 0)) (hFc : F nc = some (.rows 9 1 oc true [[.str s]]))
  (pos len : Nat → Nat) (N : Nat) (hN : N ≤ 3000) (hp0 : pos 0 = 12) (hat : ∀ i, i < N → CkAt s (pos i) (len i)) (hnx : ∀ i, i < N → pos (i + 1) = ckNx (pos i) (len i)) (hno : CkNo s (pos N)) : DCon Tryz.prog chM 71 [.ptr r 0 0, .ptr nc 0 0] F L [(r, .dead)] [r, nc] := by
 refine DCon.body (cxOk (L + 1)) rfl rfl (fn := Tryz.f71) (c := Tryz.f71.body.getD .skip) (by kernel_rfl) (by rfl) (by kernel_rfl) rfl  (by simp; omega) ?_
 intro F3 hF1 hF2
 have kr : F3 r = some (rdB s 0) := (hF1 r (by simp)).trans hFr
 have kc : F3 nc = some (.rows 9 1 oc true [[.str s]]) := (hF1 nc (by simp)).trans hFc
 have n1 : ∀ k, (r = (⟨L + 1, k⟩ : Nm)) = False := nm_out hr
 have n2 : ∀ k, ((⟨L + 1, k⟩ : Nm) = r) = False := nm_out' hr
 have o1 : ∀ k, (nc = (⟨L + 1, k⟩ : Nm)) = False := nm_out hc
 have o2 : ∀ k, ((⟨L + 1, k⟩ : Nm) = nc) = False := nm_out' hc
 have e1 : (nc = r) = False := eq_false hne
 have e2 : (r = nc) = False := eq_false (Ne.symm hne)
 have h32 : r.l ≤ L + 1 := by omega
 simp only [Tryz.f71, cx, go_sem, meths]
 refine CallVD.live (CallVC.same (number_ok r h32 s 0 2 2 rfl (by omega) (by omega) (by omega) (by omega) (by simp [rdB, kr, n1])) ?_)
 simp only [rdB, n1, go_sem]
 refine CallVD.live (CallVC.same (number_ok r h32 s 2 2 2 rfl (by omega) (by omega) (by omega) (by omega) (by simp [rdB, n1])) ?_)
 simp only [rdB, n1, go_sem]
 refine CallVD.live (CallVC.same (number_ok r h32 s 4 4 4 rfl (by omega) (by omega) (by omega) (by omega) (by simp [rdB, n1])) ?_)
 simp only [rdB, n1, n2, go_sem]
 refine CallVD.live (CallVC.same (rtake_ok r h32 s 8 4 4 rfl (by omega) (by omega) (by simp [rdB, n1])) ?_)
 simp only [rdB, n1, go_sem]
 refine CallVD.live (CallVC.same (chunks_ok r h32 (by omega)) ?_)
 simp only [n2, go_sem]
 refine rangeK.die (rd := [⟨L + 1, 288⟩, r, ⟨L + 1, 160⟩]) (upd := [(r, .dead), (⟨L + 1, 160⟩, .dead)]) (f := 114) (fl := []) (cl := [.ptr ⟨L + 1, 288⟩ 0 0]) rfl (by simp only [evalT, List.getD_cons_zero, List.getD_cons_succ]) rfl ⟨Tryz.f114, by kernel_rfl, by rfl, by kernel_rfl⟩ [none, none, none, none, some (.ptr ⟨L + 1, 160⟩ 0 0), none, none, none, none, none, none, none, none, none, none, none, none, none, none, none, none, none, none, none, none, none, none, none, none, none, none, none, none, none, none] ?_ ?_ ?_
 ·simp only [go_sem, subT, and_self]
 ·intro y h1 h2 h3 h4
  refine chunks1_die (L := L + 1) s (by omega) ⟨L + 1, 288⟩ r ⟨L + 1, 160⟩ (by simp) (by omega) (by simp) (by simp [n2]) (by simp) (by simp [n1]) 140 true false (by simp [Tx.look, n2]) pos len N (by rw [hp0]; simp [Tx.look, n1, rdB]) (getB (s.take 2)) (getB ((s.drop 2).take 2)) (getB ((s.drop 4).take 4)) (by simp [Tx.look, n2, pkV]) hat hnx hno y ?_
  ·intro F4 i q nx3 hi hFd hFq hq
   obtain ⟨o4, p4, hFd, ho4⟩ := hFd
   subst ho4
   obtain ⟨rows, hrows⟩ : ∃ x, x = (List.range i).map fun j => (ckOf s (pos j) (len j)).row := ⟨_, rfl⟩
   have hrl : rows.length = i := by rw [hrows]; simp
   have hrs : ((List.range (i + 1)).map fun j => (ckOf s (pos j) (len j)).row) = rows ++ [(ckOf s (pos i) (len i)).row] := by rw [hrows, List.range_succ]; simp
   rw [hrs]
   rw [← hrows] at hFq
   obtain ⟨ck, hck⟩ : ∃ x, x = ckOf s (pos i) (len i) := ⟨_, rfl⟩
   rw [← hck]
   refine YCon.body (cxzOk (L + 3) y.l) (by rfl) (by rfl) (k := 1) (by rfl) (by simp) (by rw [h1]; rfl) (by rw [h1, h4]; simp) ?_
   intro F5 hF5 hF6
   have q1 := (hF5 ⟨L + 1, 160⟩ (by simp)).trans hFd
   have q2 := (hF5 ⟨L + 1 + 1, q⟩ (by simp)).trans hFq
   have z1 : ∀ k, ((⟨L + 2 + 1, k⟩ : Nm) = ⟨L + 1, 160⟩) = False := fun k => by simp
   have z2 : ∀ k, ((⟨L + 1, 160⟩ : Nm) = ⟨L + 2 + 1, k⟩) = False := fun k => by simp
   have z3 : ∀ k, ((⟨L + 2 + 1, k⟩ : Nm) = ⟨L + 1 + 1, q⟩) = False := fun k => by simp
   have z4 : ∀ k, ((⟨L + 1 + 1, q⟩ : Nm) = ⟨L + 2 + 1, k⟩) = False := fun k => by simp
   have z5 : ((⟨L + 1 + 1, q⟩ : Nm) = ⟨L + 1, 160⟩) = False := by simp
   have z6 : ((⟨L + 1, 160⟩ : Nm) = ⟨L + 1 + 1, q⟩) = False := by simp
   have z7 : ∀ k, ((⟨L + 1 + 1, q⟩ : Nm) == ⟨L + 2 + 1, k⟩) = false := fun k => by simp
   rw [h1, h2, h3, h4]
   simp only [setPs, List.zip_cons_cons, List.zip_nil_right, q1, q2, z2, z3, z4, z6, z7, cxz, pkV, Ckx.row, hrl, Nat.add_assoc, go_sem, meths]
   refine ⟨⟨by omega, by omega⟩, rfl, _, Sub.refl _ _ _, [192], rfl, by simp, ?_, ?_⟩
   ·refine ⟨by simp, ?_, by simp, ?_, Nat.le_refl _, ?_, trivial⟩
    ·rw [kp_out (.inl (by simp))]
     exact .ren (by simp [Tx.look, z2, z6]; rfl) (by simp [rowsNm, nmA, nmAL, Dn]) (by simp [Tx.rn, Tx.rnL, sg, List.idxOf, List.findIdx, List.findIdx.go])
    ·rw [kp_out (.inr (.inl (by simpa using hq)))]
     exact BN_dead
    ·rw [kp_at0 (by simp)]
     exact .pure (by simp [Tx.look, z3])
   ·simp [UpdAll, keys]
 ·exact .dead (ns := [r]) (by simpa using hr) (by simp [UpdAll, updH, setH, n1, n2])
theorem decode1_dieM {F : SF} {L : Nat} (r nc : Nm) (hr : r.l ≤ L) (hc : nc.l ≤ L) (hne : nc ≠ r) (s : List UInt8) (hl : s.length ≤ 1200) (h16 : 12 ≤ s.length) (oc : Bool) (hFr : F r = some (rdB s 0)) (hFc : F nc = some (.rows 9 1 oc true [[.str s]]))
  (pos len : Nat → Nat) (N : Nat) (hN : N ≤ 3000) (hp0 : pos 0 = 12) (hat : ∀ i, i < N → CkAt s (pos i) (len i)) (hnx : ∀ i, i < N → pos (i + 1) = ckNx (pos i) (len i)) (hend : pos N = s.length) (p : Pkx) (hpk : p = ⟨getB (s.take 2), getB ((s.drop 2).take 2), getB ((s.drop 4).take 4), (List.range N).map fun j => ckOf s (pos j) (len j)⟩)
  (hbad : p.ok = false ∨ (p.ok = true ∧ (sumS s == s) = false)) : DCon Tryz.prog chM 71 [.ptr r 0 0, .ptr nc 0 0] F L [(r, .dead)] [r, nc] := by
 refine DCon.body (cxOk (L + 1)) rfl rfl (fn := Tryz.f71) (c := Tryz.f71.body.getD .skip) (by kernel_rfl) (by rfl) (by kernel_rfl) rfl  (by simp; omega) ?_
 intro F3 hF1 hF2
 have kr : F3 r = some (rdB s 0) := (hF1 r (by simp)).trans hFr
 have kc : F3 nc = some (.rows 9 1 oc true [[.str s]]) := (hF1 nc (by simp)).trans hFc
 have n1 : ∀ k, (r = (⟨L + 1, k⟩ : Nm)) = False := nm_out hr
 have n2 : ∀ k, ((⟨L + 1, k⟩ : Nm) = r) = False := nm_out' hr
 have o1 : ∀ k, (nc = (⟨L + 1, k⟩ : Nm)) = False := nm_out hc
 have o2 : ∀ k, ((⟨L + 1, k⟩ : Nm) = nc) = False := nm_out' hc
 have e1 : (nc = r) = False := eq_false hne
 have e2 : (r = nc) = False := eq_false (Ne.symm hne)
 have h32 : r.l ≤ L + 1 := by omega
 simp only [Tryz.f71, cx, go_sem, meths]
 refine CallVD.live (CallVC.same (number_ok r h32 s 0 2 2 rfl (by omega) (by omega) (by omega) (by omega) (by simp [rdB, kr, n1])) ?_)
 simp only [rdB, n1, go_sem]
 refine CallVD.live (CallVC.same (number_ok r h32 s 2 2 2 rfl (by omega) (by omega) (by omega) (by omega) (by simp [rdB, n1])) ?_)
 simp only [rdB, n1, go_sem]
 refine CallVD.live (CallVC.same (number_ok r h32 s 4 4 4 rfl (by omega) (by omega) (by omega) (by omega) (by simp [rdB, n1])) ?_)
 simp only [rdB, n1, n2, go_sem]
 refine CallVD.live (CallVC.same (rtake_ok r h32 s 8 4 4 rfl (by omega) (by omega) (by simp [rdB, n1])) ?_)
 simp only [rdB, n1, go_sem]
 refine CallVD.live (CallVC.same (chunks_ok r h32 (by omega)) ?_)
 simp only [n2, go_sem]
 refine rangeK.intro (v := .tup []) (top := 290) (rd := [⟨L + 1, 288⟩, r, ⟨L + 1, 160⟩]) (upd := [(r, rdB s s.length), (⟨L + 1, 160⟩, .rows 24 4 true false [pkV (getB (s.take 2)) (getB ((s.drop 2).take 2)) (getB ((s.drop 4).take 4)) (.sl ⟨L + 1, 289⟩ 0 N)]), (⟨L + 1, 289⟩, .rows 34 3 true true ((List.range N).map fun j => (ckOf s (pos j) (len j)).row))]) (f := 114) (fl := []) (cl := [.ptr ⟨L + 1, 288⟩ 0 0]) (by simp only [evalT, List.getD_cons_zero, List.getD_cons_succ]) rfl ⟨Tryz.f114, by kernel_rfl, by rfl, by kernel_rfl⟩ [none, none, none, none, some (.ptr ⟨L + 1, 160⟩ 0 0), none, none, none, none, none, none, none, none, none, none, none, none, none, none, none, none, none, none, none, none, none, none, none, none, none, none, none, none, none, none] ?_ ?_ ?_
 ·simp only [go_sem, subT, and_self]
 ·intro y h1 h2 h3 h4
  refine chunks1_ok (L := L + 1) (nx := 289) s (by omega) ⟨L + 1, 288⟩ r ⟨L + 1, 160⟩ (by simp) (.inl (by omega)) (.inr ⟨rfl, by simp⟩) (by simp [n2]) (by simp) (by simp [n1]) 140 true false (by simp [Tx.look, n2]) pos len N (by rw [hp0]; simp [Tx.look, n1, rdB]) (getB (s.take 2)) (getB ((s.drop 2).take 2)) (getB ((s.drop 4).take 4)) (by simp [Tx.look, n2, pkV]) hat hnx hend y ?_
  ·intro F4 i q nx3 hi hFd hFq hq
   obtain ⟨o4, p4, hFd, ho4⟩ := hFd
   subst ho4
   obtain ⟨rows, hrows⟩ : ∃ x, x = (List.range i).map fun j => (ckOf s (pos j) (len j)).row := ⟨_, rfl⟩
   have hrl : rows.length = i := by rw [hrows]; simp
   have hrs : ((List.range (i + 1)).map fun j => (ckOf s (pos j) (len j)).row) = rows ++ [(ckOf s (pos i) (len i)).row] := by rw [hrows, List.range_succ]; simp
   rw [hrs]
   rw [← hrows] at hFq
   obtain ⟨ck, hck⟩ : ∃ x, x = ckOf s (pos i) (len i) := ⟨_, rfl⟩
   rw [← hck]
   refine YCon.body (cxzOk (L + 3) y.l) (by rfl) (by rfl) (k := 1) (by rfl) (by simp) (by rw [h1]; rfl) (by rw [h1, h4]; simp) ?_
   intro F5 hF5 hF6
   have q1 := (hF5 ⟨L + 1, 160⟩ (by simp)).trans hFd
   have q2 := (hF5 ⟨L + 1 + 1, q⟩ (by simp)).trans hFq
   have z1 : ∀ k, ((⟨L + 2 + 1, k⟩ : Nm) = ⟨L + 1, 160⟩) = False := fun k => by simp
   have z2 : ∀ k, ((⟨L + 1, 160⟩ : Nm) = ⟨L + 2 + 1, k⟩) = False := fun k => by simp
   have z3 : ∀ k, ((⟨L + 2 + 1, k⟩ : Nm) = ⟨L + 1 + 1, q⟩) = False := fun k => by simp
   have z4 : ∀ k, ((⟨L + 1 + 1, q⟩ : Nm) = ⟨L + 2 + 1, k⟩) = False := fun k => by simp
   have z5 : ((⟨L + 1 + 1, q⟩ : Nm) = ⟨L + 1, 160⟩) = False := by simp
   have z6 : ((⟨L + 1, 160⟩ : Nm) = ⟨L + 1 + 1, q⟩) = False := by simp
   have z7 : ∀ k, ((⟨L + 1 + 1, q⟩ : Nm) == ⟨L + 2 + 1, k⟩) = false := fun k => by simp
   rw [h1, h2, h3, h4]
   simp only [setPs, List.zip_cons_cons, List.zip_nil_right, q1, q2, z2, z3, z4, z6, z7, cxz, pkV, Ckx.row, hrl, Nat.add_assoc, go_sem, meths]
   refine ⟨⟨by omega, by omega⟩, rfl, _, Sub.refl _ _ _, [192], rfl, by simp, ?_, ?_⟩
   ·refine ⟨by simp, ?_, by simp, ?_, Nat.le_refl _, ?_, trivial⟩
    ·rw [kp_out (.inl (by simp))]
     exact .ren (by simp [Tx.look, z2, z6]; rfl) (by simp [rowsNm, nmA, nmAL, Dn]) (by simp [Tx.rn, Tx.rnL, sg, List.idxOf, List.findIdx, List.findIdx.go])
    ·rw [kp_out (.inr (.inl (by simpa using hq)))]
     exact BN_dead
    ·rw [kp_at0 (by simp)]
     exact .pure (by simp [Tx.look, z3])
   ·simp [UpdAll, keys]
 have hrows : ((List.range N).map fun j => (ckOf s (pos j) (len j)).row) = p.cs.map Ckx.row := by rw [hpk]; simp
 have hcl : p.cs.length = N := by rw [hpk]; simp
 have hprow : p.row = [.int .i64 (getB (s.take 2)), .int .i64 (getB ((s.drop 2).take 2)), .int .i64 (getB ((s.drop 4).take 4)), .fs 3 (p.cs.map Ckx.row)] := by rw [hpk]; rfl
 have hbl : ∀ c ∈ p.cs, c.bd.length ≤ 1000000 := by
  intro c hcm
  rw [hpk] at hcm
  obtain ⟨j, _, rfl⟩ := List.mem_map.1 hcm
  simp only [ckOf, List.length_take, List.length_drop]; omega
 have hchk := fun F L nx => pkCheck_ok (F := F) (L := L) (nx := nx) p (by omega) hbl
 have hsm := fun F L nx => cSum_ok (F := F) (L := L) (nx := nx) s h16 (by omega)
 rw [hrows]
 simp only [pkV, rdB, n1, n2, go_sem]
 refine RegVD.dieAt 9 [] rfl (by simp) rfl (by kernel_rfl) ?_
 simp only [n2, go_sem]
 rcases hbad with hA | ⟨hA, hB⟩
 ·simp only [hA, Bool.false_eq_true, if_false] at hchk
  have f1 : ((320 : Int) == 0) = false := rfl
  refine CallVC.gen (args2 := [.agg p.row]) (by rw [hprow]; simp [Wk, WkL, n2, List.take_of_length_le, hcl]) (hchk _ _ _) ?_
  rw [hprow]
  simp only [f1, wkNL, wkN, unown, n2, go_sem]
  refine dieX.same must_die ?_
  simp only [go_sem]
  refine ⟨okDyn_num (fun x => if x = nc then 1 else x.i) (by simp only [numF, List.map, o2, if_false]; kernel_rfl), ?_⟩
  exact fun nz => PostD.all (ns := [r]) rfl (by simpa using hr) (by simp [UpdAll, n2]) (by simp [keys])
 ·simp only [hA, if_true] at hchk
  refine CallVC.gen (args2 := [.agg p.row]) (by rw [hprow]; simp [Wk, WkL, n2, List.take_of_length_le, hcl]) (hchk _ _ _) ?_
  rw [hprow]
  simp only [wkNL, wkN, unown, n2, o1, e1, kc, go_sem]
  refine CallVC.same (hsm _ _ _) ?_
  simp only [hB, o1, e1, kc, go_sem]
  refine dieX.same must_die ?_
  simp only [go_sem]
  refine ⟨okDyn_num (fun x => if x = nc then 1 else x.i) (by simp only [numF, List.map, o2, if_true, if_false]; kernel_rfl), ?_⟩
  exact fun nz => PostD.all (ns := [r]) rfl (by simpa using hr) (by simp [UpdAll, n2]) (by simp [keys])
end Go.Proofs.YtaacfnngodhecaaGreatDoor
end
