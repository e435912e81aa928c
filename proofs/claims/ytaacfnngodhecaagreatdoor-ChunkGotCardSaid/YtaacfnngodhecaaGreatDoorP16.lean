/- Lemmas for the walk: WK6. -/
import Derived.Test.YtaacfnngodhecaaGreatDoorP12
import Derived.Test.YtaacfnngodhecaaGreatDoorP13
set_option linter.all false
section
namespace Go.Proofs.YtaacfnngodhecaaGreatDoor
open Go.Tx
set_option maxRecDepth 100000
set_option maxHeartbeats 1000000
theorem BW_dead {L : Nat} {G : SF} {ob : Option SBlk} : BW L G ob .dead := by
 cases ob with
 | none => trivial
 | some b => cases b <;> trivial
def OfOk (g : FuncId) (xs ys : List PV) (s : List UInt8) (v : PV) (p : Nat) (F : SF) (rds : List Nm) : Prop :=
 ∀ (F' : SF) (L : Nat) (r : Nm) (nx : Nat), (∀ n ∈ rds, F' n = F n) → r.l ≤ L → (∀ n ∈ rds, n.l ≤ L) → F' r = some (rdB s 0) → Con Tryz.prog g (xs ++ [.ptr r 0 0] ++ ys) F' L nx nx v [(r, rdB s p)] (r :: rds)
def OfDie (g : FuncId) (xs ys : List PV) (s : List UInt8) (F : SF) (rds : List Nm) : Prop :=
 ∀ (F' : SF) (L : Nat) (r : Nm), (∀ n ∈ rds, F' n = F n) → r.l ≤ L → (∀ n ∈ rds, n.l ≤ L) → F' r = some (rdB s 0) → DCon Tryz.prog chM g (xs ++ [.ptr r 0 0] ++ ys) F' L [(r, .dead)] (r :: rds)
def PutOk (gp : FuncId) (l : List PV) (k fl : Int) (b : List UInt8) (e : Int) : Prop :=
 ∀ (F : SF) (L nx : Nat), Con Tryz.prog gp [.agg l] F L nx nx (.tup [.agg [.int .i64 k, .int .i64 fl, .str b], .int .i64 e]) [] []
theorem OfOk.agree {g : FuncId} {xs ys : List PV} {s : List UInt8} {v : PV} {p : Nat} {F F2 : SF} {rds : List Nm} (h : OfOk g xs ys s v p F rds) (ha : ∀ n ∈ rds, F2 n = F n) : OfOk g xs ys s v p F2 rds :=
 fun F' L r nx h1 => h F' L r nx fun n hn => (h1 n hn).trans (ha n hn)
theorem OfDie.agree {g : FuncId} {xs ys : List PV} {s : List UInt8} {F F2 : SF} {rds : List Nm} (h : OfDie g xs ys s F rds) (ha : ∀ n ∈ rds, F2 n = F n) : OfDie g xs ys s F2 rds :=
 fun F' L r h1 => h F' L r fun n hn => (h1 n hn).trans (ha n hn)
def GetBad (g gp : FuncId) (xs ys : List PV) (s : List UInt8) (k fl : Int) (w : Nat) (F : SF) (rds : List Nm) : Prop :=
 OfDie g xs ys s F rds ∨ (∃ l p, l.length = w ∧ nfl l = true ∧ p ≠ s.length ∧ OfOk g xs ys s (.agg l) p F rds) ∨
 (∃ l k2 fl2 e2 b2, l.length = w ∧ nfl l = true ∧ OfOk g xs ys s (.agg l) s.length F rds ∧ PutOk gp l k2 fl2 b2 e2 ∧ ¬(e2 = 0 ∧ k2 = k ∧ fl2 = fl ∧ b2 = s))
theorem getData1_ok {F : SF} {L nx : Nat} (r nof npt nc : Nm) (hr : r.l ≤ L) (hof : nof.l ≤ L) (hpt : npt.l ≤ L) (hc : nc.l ≤ L) (d1 : nof ≠ r) (d2 : npt ≠ r) (d3 : nc ≠ r) (s : List UInt8) (hl : s.length ≤ 1000000) (k fl : Int) (eo ep : TypeId) (oo op po pp oc : Bool) (g gp : FuncId) (xs ys : List PV) (l : List PV) (hlw : l.length = 8) (hnf : nfl l = true) (rds : List Nm) (hrd : ∀ n ∈ rds, n.l ≤ L ∧ n ≠ r)
  (hFr : F r = some (rdB s 0)) (hFo : F nof = some (.rows eo 1 oo po [[.fn (.func g) xs ys]])) (hFp : F npt = some (.rows ep 1 op pp [[.fn (.func gp) [] []]])) (hFc : F nc = some (.rows 34 3 oc true [[.int .i64 k, .int .i64 fl, .str s]]))
  (hg : OfOk g xs ys s (.agg l) s.length F rds) (hp : PutOk gp l k fl s 0) : Con Tryz.prog 120 [.ptr r 0 0, .ptr nof 0 0, .ptr npt 0 0, .ptr nc 0 0] F L nx nx (.agg l) [(r, .dead)] (r :: nof :: npt :: nc :: rds) := by
 refine bdy Tryz.f120 (hrd := (by intro n hn; simp at hn; rcases hn with rfl | rfl | rfl | rfl | hn <;> first | assumption | exact (hrd n hn).1)) ?_
 intro F3 hF1 hF2
 have kr : F3 r = some (rdB s 0) := (hF1 r (by simp)).trans hFr
 have ko : F3 nof = some (.rows eo 1 oo po [[.fn (.func g) xs ys]]) := (hF1 nof (by simp)).trans hFo
 have kp : F3 npt = some (.rows ep 1 op pp [[.fn (.func gp) [] []]]) := (hF1 npt (by simp)).trans hFp
 have kc : F3 nc = some (.rows 34 3 oc true [[.int .i64 k, .int .i64 fl, .str s]]) := (hF1 nc (by simp)).trans hFc
 have n1 : ∀ k, (r = (⟨L + 1, k⟩ : Nm)) = False := nm_out hr
 have n2 : ∀ k, ((⟨L + 1, k⟩ : Nm) = r) = False := nm_out' hr
 have o1 : ∀ k, (nof = (⟨L + 1, k⟩ : Nm)) = False := nm_out hof
 have o2 : ∀ k, (npt = (⟨L + 1, k⟩ : Nm)) = False := nm_out hpt
 have o3 : ∀ k, (nc = (⟨L + 1, k⟩ : Nm)) = False := nm_out hc
 have e1 : (nof = r) = False := eq_false d1
 have e2 : (npt = r) = False := eq_false d2
 have e3 : (nc = r) = False := eq_false d3
 simp only [Tryz.f120, cx, ko, o1, go_sem, meths]
 refine CallVC.same (hg _ (L + 1) r _ (fun n hn => ?_) (by omega) (fun n hn => by have := (hrd n hn).1; omega) (by simp [n1, kr])) ?_
 ·have e5 : ∀ k, (n = (⟨L + 1, k⟩ : Nm)) = False := nm_out (hrd n hn).1
  simp [e5, hF1 n (by simp [hn])]
 simp only [rdB, kr, n1, n2, hlw, hnf, Nat.add_zero, go_sem]
 repeat refine sd1 ?_
 refine CallVC.sameP must_ok rfl ?_
 simp only [kp, n2, o2, e2, go_sem]
 repeat refine sd1 ?_
 refine CallVC.sameP (hp _ _ _) rfl ?_
 simp only [kc, n2, o3, e3, go_sem]
 repeat refine sd1 ?_
 refine CallVC.sameP must_ok rfl ?_
 simp only [n2, hlw, hnf, go_sem]
 repeat refine sd1 ?_
 exact PostF.of (p := True) (v0 := .agg l) (.inr rfl) (by simp only [resVal, resVals, resVal1, one, go_sem]) trivial (wk_refl _ _).1 (by rw [(wk_refl (fun _ => none) _).2]; simp) (by simp only [Tx.nf]; exact hnf) ⟨hr, BW_dead, trivial⟩ (by simp [UpdAll, keys])
theorem getData1_dieOf {F : SF} {L : Nat} (r nof npt nc : Nm) (hr : r.l ≤ L) (hof : nof.l ≤ L) (hpt : npt.l ≤ L) (hc : nc.l ≤ L) (d1 : nof ≠ r) (d2 : npt ≠ r) (d3 : nc ≠ r) (s : List UInt8) (hl : s.length ≤ 1000000) (k fl : Int) (eo ep : TypeId) (oo op po pp oc : Bool) (g gp : FuncId) (xs ys : List PV) (l : List PV) (hlw : l.length = 8) (hnf : nfl l = true) (rds : List Nm) (hrd : ∀ n ∈ rds, n.l ≤ L ∧ n ≠ r)
  (hFr : F r = some (rdB s 0)) (hFo : F nof = some (.rows eo 1 oo po [[.fn (.func g) xs ys]])) (hFp : F npt = some (.rows ep 1 op pp [[.fn (.func gp) [] []]])) (hFc : F nc = some (.rows 34 3 oc true [[.int .i64 k, .int .i64 fl, .str s]]))
  (hg : OfDie g xs ys s F rds) : DCon Tryz.prog chM 120 [.ptr r 0 0, .ptr nof 0 0, .ptr npt 0 0, .ptr nc 0 0] F L [(r, .dead)] (r :: nof :: npt :: nc :: rds) := by
 refine DCon.body (cxOk (L + 1)) rfl rfl (fn := Tryz.f120) (c := Tryz.f120.body.getD .skip) (by kernel_rfl) (by rfl) (by kernel_rfl) rfl  (by intro n hn; simp at hn; rcases hn with rfl | rfl | rfl | rfl | hn <;> first | assumption | exact (hrd n hn).1) ?_
 intro F3 hF1 hF2
 have kr : F3 r = some (rdB s 0) := (hF1 r (by simp)).trans hFr
 have ko : F3 nof = some (.rows eo 1 oo po [[.fn (.func g) xs ys]]) := (hF1 nof (by simp)).trans hFo
 have kp : F3 npt = some (.rows ep 1 op pp [[.fn (.func gp) [] []]]) := (hF1 npt (by simp)).trans hFp
 have kc : F3 nc = some (.rows 34 3 oc true [[.int .i64 k, .int .i64 fl, .str s]]) := (hF1 nc (by simp)).trans hFc
 have n1 : ∀ k, (r = (⟨L + 1, k⟩ : Nm)) = False := nm_out hr
 have n2 : ∀ k, ((⟨L + 1, k⟩ : Nm) = r) = False := nm_out' hr
 have o1 : ∀ k, (nof = (⟨L + 1, k⟩ : Nm)) = False := nm_out hof
 have o2 : ∀ k, (npt = (⟨L + 1, k⟩ : Nm)) = False := nm_out hpt
 have o3 : ∀ k, (nc = (⟨L + 1, k⟩ : Nm)) = False := nm_out hc
 have e1 : (nof = r) = False := eq_false d1
 have e2 : (npt = r) = False := eq_false d2
 have e3 : (nc = r) = False := eq_false d3
 simp only [Tryz.f120, cx, ko, o1, go_sem, meths]
 refine CallVD.same rfl (hg _ (L + 1) r (fun n hn => ?_) (by omega) (fun n hn => by have := (hrd n hn).1; omega) (by simp [Tx.look, n1, kr])) ?_
 ·have e5 : ∀ k, (n = (⟨L + 1, k⟩ : Nm)) = False := nm_out (hrd n hn).1
  simp [Tx.look, e5, hF1 n (by simp [hn])]
 exact .dead (ns := [r]) (by simpa using hr) (by simp [UpdAll, updH, setH, n1, n2])
theorem getData1_dieAt {F : SF} {L : Nat} (r nof npt nc : Nm) (hr : r.l ≤ L) (hof : nof.l ≤ L) (hpt : npt.l ≤ L) (hc : nc.l ≤ L) (d1 : nof ≠ r) (d2 : npt ≠ r) (d3 : nc ≠ r) (s : List UInt8) (hl : s.length ≤ 1000000) (k fl : Int) (eo ep : TypeId) (oo op po pp oc : Bool) (g gp : FuncId) (xs ys : List PV) (l : List PV) (hlw : l.length = 8) (hnf : nfl l = true) (rds : List Nm) (hrd : ∀ n ∈ rds, n.l ≤ L ∧ n ≠ r)
  (hFr : F r = some (rdB s 0)) (hFo : F nof = some (.rows eo 1 oo po [[.fn (.func g) xs ys]])) (hFp : F npt = some (.rows ep 1 op pp [[.fn (.func gp) [] []]])) (hFc : F nc = some (.rows 34 3 oc true [[.int .i64 k, .int .i64 fl, .str s]]))
  (p : Nat) (hps : p ≠ s.length) (hg : OfOk g xs ys s (.agg l) p F rds) : DCon Tryz.prog chM 120 [.ptr r 0 0, .ptr nof 0 0, .ptr npt 0 0, .ptr nc 0 0] F L [(r, .dead)] (r :: nof :: npt :: nc :: rds) := by
 refine DCon.body (cxOk (L + 1)) rfl rfl (fn := Tryz.f120) (c := Tryz.f120.body.getD .skip) (by kernel_rfl) (by rfl) (by kernel_rfl) rfl  (by intro n hn; simp at hn; rcases hn with rfl | rfl | rfl | rfl | hn <;> first | assumption | exact (hrd n hn).1) ?_
 intro F3 hF1 hF2
 have kr : F3 r = some (rdB s 0) := (hF1 r (by simp)).trans hFr
 have ko : F3 nof = some (.rows eo 1 oo po [[.fn (.func g) xs ys]]) := (hF1 nof (by simp)).trans hFo
 have kp : F3 npt = some (.rows ep 1 op pp [[.fn (.func gp) [] []]]) := (hF1 npt (by simp)).trans hFp
 have kc : F3 nc = some (.rows 34 3 oc true [[.int .i64 k, .int .i64 fl, .str s]]) := (hF1 nc (by simp)).trans hFc
 have n1 : ∀ k, (r = (⟨L + 1, k⟩ : Nm)) = False := nm_out hr
 have n2 : ∀ k, ((⟨L + 1, k⟩ : Nm) = r) = False := nm_out' hr
 have o1 : ∀ k, (nof = (⟨L + 1, k⟩ : Nm)) = False := nm_out hof
 have o2 : ∀ k, (npt = (⟨L + 1, k⟩ : Nm)) = False := nm_out hpt
 have o3 : ∀ k, (nc = (⟨L + 1, k⟩ : Nm)) = False := nm_out hc
 have e1 : (nof = r) = False := eq_false d1
 have e2 : (npt = r) = False := eq_false d2
 have e3 : (nc = r) = False := eq_false d3
 simp only [Tryz.f120, cx, ko, o1, go_sem, meths]
 refine CallVD.live (CallVC.same (hg _ (L + 1) r _ (fun n hn => ?_) (by omega) (fun n hn => by have := (hrd n hn).1; omega) (by simp [n1, kr])) ?_)
 ·have e5 : ∀ k, (n = (⟨L + 1, k⟩ : Nm)) = False := nm_out (hrd n hn).1
  simp [e5, hF1 n (by simp [hn])]
 simp only [rdB, kr, n1, n2, hlw, hnf, Nat.add_zero, go_sem]
 have f1 : ((p : Int) == (s.length : Int)) = false := eqF (by omega)
 repeat refine sd1 ?_
 refine RegVD.dieAt 12 [] rfl (by simp) rfl (by kernel_rfl) ?_
 simp only [f1, rdB, kr, n1, Nat.add_zero, go_sem]
 refine dieX.same must_die ?_
 simp only [go_sem]
 repeat refine sd1 ?_
 exact fun nz => PostD.all (ns := [r]) rfl (by simpa using hr) (by simp [UpdAll, n2]) (by simp [keys])
theorem getData1_dieBack {F : SF} {L : Nat} (r nof npt nc : Nm) (hr : r.l ≤ L) (hof : nof.l ≤ L) (hpt : npt.l ≤ L) (hc : nc.l ≤ L) (d1 : nof ≠ r) (d2 : npt ≠ r) (d3 : nc ≠ r) (s : List UInt8) (hl : s.length ≤ 1000000) (k fl : Int) (eo ep : TypeId) (oo op po pp oc : Bool) (g gp : FuncId) (xs ys : List PV) (l : List PV) (hlw : l.length = 8) (hnf : nfl l = true) (rds : List Nm) (hrd : ∀ n ∈ rds, n.l ≤ L ∧ n ≠ r)
  (hFr : F r = some (rdB s 0)) (hFo : F nof = some (.rows eo 1 oo po [[.fn (.func g) xs ys]])) (hFp : F npt = some (.rows ep 1 op pp [[.fn (.func gp) [] []]])) (hFc : F nc = some (.rows 34 3 oc true [[.int .i64 k, .int .i64 fl, .str s]]))
  (hg : OfOk g xs ys s (.agg l) s.length F rds) (k2 fl2 e2 : Int) (b2 : List UInt8) (hp : PutOk gp l k2 fl2 b2 e2) (hne : ¬(e2 = 0 ∧ k2 = k ∧ fl2 = fl ∧ b2 = s)) : DCon Tryz.prog chM 120 [.ptr r 0 0, .ptr nof 0 0, .ptr npt 0 0, .ptr nc 0 0] F L [(r, .dead)] (r :: nof :: npt :: nc :: rds) := by
 refine DCon.body (cxOk (L + 1)) rfl rfl (fn := Tryz.f120) (c := Tryz.f120.body.getD .skip) (by kernel_rfl) (by rfl) (by kernel_rfl) rfl  (by intro n hn; simp at hn; rcases hn with rfl | rfl | rfl | rfl | hn <;> first | assumption | exact (hrd n hn).1) ?_
 intro F3 hF1 hF2
 have kr : F3 r = some (rdB s 0) := (hF1 r (by simp)).trans hFr
 have ko : F3 nof = some (.rows eo 1 oo po [[.fn (.func g) xs ys]]) := (hF1 nof (by simp)).trans hFo
 have kp : F3 npt = some (.rows ep 1 op pp [[.fn (.func gp) [] []]]) := (hF1 npt (by simp)).trans hFp
 have kc : F3 nc = some (.rows 34 3 oc true [[.int .i64 k, .int .i64 fl, .str s]]) := (hF1 nc (by simp)).trans hFc
 have n1 : ∀ k, (r = (⟨L + 1, k⟩ : Nm)) = False := nm_out hr
 have n2 : ∀ k, ((⟨L + 1, k⟩ : Nm) = r) = False := nm_out' hr
 have o1 : ∀ k, (nof = (⟨L + 1, k⟩ : Nm)) = False := nm_out hof
 have o2 : ∀ k, (npt = (⟨L + 1, k⟩ : Nm)) = False := nm_out hpt
 have o3 : ∀ k, (nc = (⟨L + 1, k⟩ : Nm)) = False := nm_out hc
 have e1 : (nof = r) = False := eq_false d1
 have e2' : (npt = r) = False := eq_false d2
 have e3 : (nc = r) = False := eq_false d3
 simp only [Tryz.f120, cx, ko, o1, go_sem, meths]
 refine CallVD.live (CallVC.same (hg _ (L + 1) r _ (fun n hn => ?_) (by omega) (fun n hn => by have := (hrd n hn).1; omega) (by simp [n1, kr])) ?_)
 ·have e5 : ∀ k, (n = (⟨L + 1, k⟩ : Nm)) = False := nm_out (hrd n hn).1
  simp [e5, hF1 n (by simp [hn])]
 simp only [rdB, kr, n1, n2, hlw, hnf, Nat.add_zero, go_sem]
 repeat refine sd1 ?_
 refine RegVD.live ?_
 repeat refine sd1 ?_
 refine CallVC.sameP must_ok rfl ?_
 simp only [kp, n2, o2, e2', go_sem]
 repeat refine sd1 ?_
 refine CallVD.live (CallVC.sameP (hp _ _ _) rfl ?_)
 simp only [kc, n2, o3, e3, go_sem]
 repeat refine sd1 ?_
 refine brB.mk (fun h => ?_) (fun h => ?_)
 ·have h1 : e2 = 0 := by simpa using h
  have f2 : (k2 == k && (fl2 == fl && b2 == s)) = false := by
   rw [Bool.eq_false_iff]
   intro h2
   simp only [Bool.and_eq_true, beq_iff_eq] at h2
   exact hne ⟨h1, h2.1, h2.2.1, h2.2.2⟩
  simp only [f2]
  refine CallVD.same rfl must_die ?_
  exact .dead (ns := [r]) (by simpa using hr) (by simp [UpdAll, updH, n2])
 ·simp only [h, Bool.not_true, go_sem]
  refine CallVD.same rfl must_die ?_
  exact .dead (ns := [r]) (by simpa using hr) (by simp [UpdAll, updH, n2])
theorem getData_kind {F : SF} {L nx : Nat} (s : List UInt8) (k fl : Int) (g gp : FuncId) (xs ys : List PV) (ks : List Int) (hk : (ks.any fun x => k == x) = false) (hks : ks.length ≤ 1000) :
  Con Tryz.prog 84 [.agg [.int .i64 k, .int .i64 fl, .str s], .fn (.func g) xs ys, .fn (.func gp) [] [], .fs 1 (ks.map eI)] F L nx nx (.tup [.agg [.int .i64 0, .int .i64 0, .int .i64 0, .int .i64 0, .bool false, .bool false, .bool false, .str []], .int .i64 2]) [] [] := by
 refine bdy Tryz.f84 ?_
 intro F3 hF1 hF2
 simp only [Tryz.f84, cx, Nat.add_zero, go_sem, meths]
 refine CallVC.sameP (contains_ok ks k (by omega)) rfl ?_
 simp only [hk, go_sem]
 repeat refine sd1 ?_
 exact PostF.rs (v0 := .tup [.agg [.int .i64 0, .int .i64 0, .int .i64 0, .int .i64 0, .bool false, .bool false, .bool false, .str []], .int .i64 2]) (.inr rfl)
theorem getData_ok {F : SF} {L nx : Nat} (s : List UInt8) (hl : s.length ≤ 1000000) (k fl : Int) (g gp : FuncId) (xs ys : List PV) (ks : List Int) (hk : (ks.any fun x => k == x) = true) (hks : ks.length ≤ 1000) (l : List PV) (hlw : l.length = 8) (hnf : nfl l = true) (rds : List Nm) (hrd : ∀ n ∈ rds, n.l ≤ L)
  (hg : OfOk g xs ys s (.agg l) s.length F rds) (hp : PutOk gp l k fl s 0) : Con Tryz.prog 84 [.agg [.int .i64 k, .int .i64 fl, .str s], .fn (.func g) xs ys, .fn (.func gp) [] [], .fs 1 (ks.map eI)] F L nx nx (.tup [.agg l, .int .i64 0]) [] rds := by
 refine bdy Tryz.f84 (hrd := hrd) ?_
 intro F3 hF1 hF2
 simp only [Tryz.f84, cx, Nat.add_zero, go_sem, meths]
 refine CallVC.sameP (contains_ok ks k (by omega)) rfl ?_
 simp only [hk, go_sem]
 repeat refine sd1 ?_
 refine CallVC.same (readData_ok s 120 [] [.ptr ⟨L + 1, 32⟩ 0 0, .ptr ⟨L + 1, 64⟩ 0 0, .ptr ⟨L + 1, 0⟩ 0 0] l hlw hnf (⟨L + 1, 32⟩ :: ⟨L + 1, 64⟩ :: ⟨L + 1, 0⟩ :: rds) (fun n hn => ?_) ?_) ?_
 ·simp only [List.mem_cons] at hn
  rcases hn with rfl | rfl | rfl | hn <;> first | exact Nat.le_refl _ | (have := hrd n hn; omega)
 ·intro F' r nx' hF' hr hFr
  have hne : ∀ (m : Nm), m.l ≤ L + 1 → m ≠ r := fun m hm e => by rw [e, hr] at hm; omega
  refine getData1_ok r ⟨L + 1, 32⟩ ⟨L + 1, 64⟩ ⟨L + 1, 0⟩ (Nat.le_of_eq hr) (by simp) (by simp) (by simp) (hne _ (Nat.le_refl _)) (hne _ (Nat.le_refl _)) (hne _ (Nat.le_refl _)) s hl k fl _ _ _ _ _ _ _ g gp xs ys l hlw hnf rds (fun n hn => ⟨by have := hrd n hn; omega, hne n (by have := hrd n hn; omega)⟩) hFr ((hF' _ (by simp)).trans (by simp; first | exact ⟨rfl, rfl, rfl⟩ | exact ⟨rfl, rfl⟩ | rfl)) ((hF' _ (by simp)).trans (by simp; first | exact ⟨rfl, rfl, rfl⟩ | exact ⟨rfl, rfl⟩ | rfl)) ((hF' _ (by simp)).trans (by simp; first | exact ⟨rfl, rfl, rfl⟩ | exact ⟨rfl, rfl⟩ | rfl)) (hg.agree fun n hn => ?_) hp
  have e5 : ∀ k, (n = (⟨L + 1, k⟩ : Nm)) = False := nm_out (hrd n hn)
  rw [hF' n (by simp [hn])]
  simp [e5, hF1 n hn]
 simp only [hlw, hnf, go_sem]
 repeat refine sd1 ?_
 exact PostF.of (p := True) (v0 := .tup [.agg l, .int .i64 0]) (.inr rfl) (by simp only [resVal, resVals, resVal1, one, go_sem]) trivial (wk_refl _ _).1 (by rw [(wk_refl (fun _ => none) _).2]; simp) (by simp only [Tx.nf, nfl, hnf]; rfl) trivial (by simp [UpdAll, keys])
theorem getData_bad {F : SF} {L nx : Nat} (s : List UInt8) (hl : s.length ≤ 1000000) (k fl : Int) (g gp : FuncId) (xs ys : List PV) (ks : List Int) (hk : (ks.any fun x => k == x) = true) (hks : ks.length ≤ 1000) (rds : List Nm) (hrd : ∀ n ∈ rds, n.l ≤ L)
  (hg : GetBad g gp xs ys s k fl 8 F rds) : Con Tryz.prog 84 [.agg [.int .i64 k, .int .i64 fl, .str s], .fn (.func g) xs ys, .fn (.func gp) [] [], .fs 1 (ks.map eI)] F L nx nx (.tup [.agg [.int .i64 0, .int .i64 0, .int .i64 0, .int .i64 0, .bool false, .bool false, .bool false, .str []], .int .i64 5]) [] rds := by
 refine bdy Tryz.f84 (hrd := hrd) ?_
 intro F3 hF1 hF2
 simp only [Tryz.f84, cx, Nat.add_zero, go_sem, meths]
 refine CallVC.sameP (contains_ok ks k (by omega)) rfl ?_
 simp only [hk, go_sem]
 repeat refine sd1 ?_
 refine CallVC.same (readData_die s 120 [] [.ptr ⟨L + 1, 32⟩ 0 0, .ptr ⟨L + 1, 64⟩ 0 0, .ptr ⟨L + 1, 0⟩ 0 0] (⟨L + 1, 32⟩ :: ⟨L + 1, 64⟩ :: ⟨L + 1, 0⟩ :: rds) (fun n hn => ?_) ?_) ?_
 ·simp only [List.mem_cons] at hn
  rcases hn with rfl | rfl | rfl | hn <;> first | exact Nat.le_refl _ | (have := hrd n hn; omega)
 ·intro F' r hF' hr hFr
  have hne : ∀ (m : Nm), m.l ≤ L + 1 → m ≠ r := fun m hm e => by rw [e, hr] at hm; omega
  have hag : ∀ n ∈ rds, F' n = F n := fun n hn => by
   have e5 : ∀ k, (n = (⟨L + 1, k⟩ : Nm)) = False := nm_out (hrd n hn)
   rw [hF' n (by simp [hn])]
   simp [e5, hF1 n hn]
  have hrd' : ∀ n ∈ rds, n.l ≤ L + 1 + 2 ∧ n ≠ r := fun n hn => ⟨by have := hrd n hn; omega, hne n (by have := hrd n hn; omega)⟩
  rcases hg with hg | ⟨l, p, hlw, hnf, hp, hg⟩ | ⟨l, k2, fl2, e2, b2, hlw, hnf, hg, hp, hb⟩
  ·exact getData1_dieOf r ⟨L + 1, 32⟩ ⟨L + 1, 64⟩ ⟨L + 1, 0⟩ (Nat.le_of_eq hr) (by simp) (by simp) (by simp) (hne _ (Nat.le_refl _)) (hne _ (Nat.le_refl _)) (hne _ (Nat.le_refl _)) s hl k fl _ _ _ _ _ _ _ g gp xs ys (List.replicate 8 (.bool false)) (by simp) (by rfl) rds hrd' hFr ((hF' _ (by simp)).trans (by simp; first | exact ⟨rfl, rfl, rfl⟩ | exact ⟨rfl, rfl⟩ | rfl)) ((hF' _ (by simp)).trans (by simp; first | exact ⟨rfl, rfl, rfl⟩ | exact ⟨rfl, rfl⟩ | rfl)) ((hF' _ (by simp)).trans (by simp; first | exact ⟨rfl, rfl, rfl⟩ | exact ⟨rfl, rfl⟩ | rfl)) (hg.agree hag)
  ·exact getData1_dieAt r ⟨L + 1, 32⟩ ⟨L + 1, 64⟩ ⟨L + 1, 0⟩ (Nat.le_of_eq hr) (by simp) (by simp) (by simp) (hne _ (Nat.le_refl _)) (hne _ (Nat.le_refl _)) (hne _ (Nat.le_refl _)) s hl k fl _ _ _ _ _ _ _ g gp xs ys l hlw hnf rds hrd' hFr ((hF' _ (by simp)).trans (by simp; first | exact ⟨rfl, rfl, rfl⟩ | exact ⟨rfl, rfl⟩ | rfl)) ((hF' _ (by simp)).trans (by simp; first | exact ⟨rfl, rfl, rfl⟩ | exact ⟨rfl, rfl⟩ | rfl)) ((hF' _ (by simp)).trans (by simp; first | exact ⟨rfl, rfl, rfl⟩ | exact ⟨rfl, rfl⟩ | rfl)) p hp (hg.agree hag)
  ·exact getData1_dieBack r ⟨L + 1, 32⟩ ⟨L + 1, 64⟩ ⟨L + 1, 0⟩ (Nat.le_of_eq hr) (by simp) (by simp) (by simp) (hne _ (Nat.le_refl _)) (hne _ (Nat.le_refl _)) (hne _ (Nat.le_refl _)) s hl k fl _ _ _ _ _ _ _ g gp xs ys l hlw hnf rds hrd' hFr ((hF' _ (by simp)).trans (by simp; first | exact ⟨rfl, rfl, rfl⟩ | exact ⟨rfl, rfl⟩ | rfl)) ((hF' _ (by simp)).trans (by simp; first | exact ⟨rfl, rfl, rfl⟩ | exact ⟨rfl, rfl⟩ | rfl)) ((hF' _ (by simp)).trans (by simp; first | exact ⟨rfl, rfl, rfl⟩ | exact ⟨rfl, rfl⟩ | rfl)) (hg.agree hag) k2 fl2 e2 b2 hp hb
 simp only [go_sem]
 repeat refine sd1 ?_
 exact PostF.rs (v0 := .tup [.agg [.int .i64 0, .int .i64 0, .int .i64 0, .int .i64 0, .bool false, .bool false, .bool false, .str []], .int .i64 5]) (.inr rfl)
theorem getInit1_ok {F : SF} {L nx : Nat} (r nof npt nc : Nm) (hr : r.l ≤ L) (hof : nof.l ≤ L) (hpt : npt.l ≤ L) (hc : nc.l ≤ L) (d1 : nof ≠ r) (d2 : npt ≠ r) (d3 : nc ≠ r) (s : List UInt8) (hl : s.length ≤ 1000000) (k fl : Int) (eo ep : TypeId) (oo op po pp oc : Bool) (g gp : FuncId) (xs ys : List PV) (l : List PV) (hlw : l.length = 6) (hnf : nfl l = true) (rds : List Nm) (hrd : ∀ n ∈ rds, n.l ≤ L ∧ n ≠ r)
  (hFr : F r = some (rdB s 0)) (hFo : F nof = some (.rows eo 1 oo po [[.fn (.func g) xs ys]])) (hFp : F npt = some (.rows ep 1 op pp [[.fn (.func gp) [] []]])) (hFc : F nc = some (.rows 34 3 oc true [[.int .i64 k, .int .i64 fl, .str s]]))
  (hg : OfOk g xs ys s (.agg l) s.length F rds) (hp : PutOk gp l k fl s 0) : Con Tryz.prog 122 [.ptr r 0 0, .ptr nof 0 0, .ptr npt 0 0, .ptr nc 0 0] F L nx nx (.agg l) [(r, .dead)] (r :: nof :: npt :: nc :: rds) := by
 refine bdy Tryz.f122 (hrd := (by intro n hn; simp at hn; rcases hn with rfl | rfl | rfl | rfl | hn <;> first | assumption | exact (hrd n hn).1)) ?_
 intro F3 hF1 hF2
 have kr : F3 r = some (rdB s 0) := (hF1 r (by simp)).trans hFr
 have ko : F3 nof = some (.rows eo 1 oo po [[.fn (.func g) xs ys]]) := (hF1 nof (by simp)).trans hFo
 have kp : F3 npt = some (.rows ep 1 op pp [[.fn (.func gp) [] []]]) := (hF1 npt (by simp)).trans hFp
 have kc : F3 nc = some (.rows 34 3 oc true [[.int .i64 k, .int .i64 fl, .str s]]) := (hF1 nc (by simp)).trans hFc
 have n1 : ∀ k, (r = (⟨L + 1, k⟩ : Nm)) = False := nm_out hr
 have n2 : ∀ k, ((⟨L + 1, k⟩ : Nm) = r) = False := nm_out' hr
 have o1 : ∀ k, (nof = (⟨L + 1, k⟩ : Nm)) = False := nm_out hof
 have o2 : ∀ k, (npt = (⟨L + 1, k⟩ : Nm)) = False := nm_out hpt
 have o3 : ∀ k, (nc = (⟨L + 1, k⟩ : Nm)) = False := nm_out hc
 have e1 : (nof = r) = False := eq_false d1
 have e2 : (npt = r) = False := eq_false d2
 have e3 : (nc = r) = False := eq_false d3
 simp only [Tryz.f122, cx, ko, o1, go_sem, meths]
 refine CallVC.same (hg _ (L + 1) r _ (fun n hn => ?_) (by omega) (fun n hn => by have := (hrd n hn).1; omega) (by simp [n1, kr])) ?_
 ·have e5 : ∀ k, (n = (⟨L + 1, k⟩ : Nm)) = False := nm_out (hrd n hn).1
  simp [e5, hF1 n (by simp [hn])]
 simp only [rdB, kr, n1, n2, hlw, hnf, Nat.add_zero, go_sem]
 repeat refine sd1 ?_
 refine CallVC.sameP must_ok rfl ?_
 simp only [kp, n2, o2, e2, go_sem]
 repeat refine sd1 ?_
 refine CallVC.sameP (hp _ _ _) rfl ?_
 simp only [kc, n2, o3, e3, go_sem]
 repeat refine sd1 ?_
 refine CallVC.sameP must_ok rfl ?_
 simp only [n2, hlw, hnf, go_sem]
 repeat refine sd1 ?_
 exact PostF.of (p := True) (v0 := .agg l) (.inr rfl) (by simp only [resVal, resVals, resVal1, one, go_sem]) trivial (wk_refl _ _).1 (by rw [(wk_refl (fun _ => none) _).2]; simp) (by simp only [Tx.nf]; exact hnf) ⟨hr, BW_dead, trivial⟩ (by simp [UpdAll, keys])
theorem getInit1_dieOf {F : SF} {L : Nat} (r nof npt nc : Nm) (hr : r.l ≤ L) (hof : nof.l ≤ L) (hpt : npt.l ≤ L) (hc : nc.l ≤ L) (d1 : nof ≠ r) (d2 : npt ≠ r) (d3 : nc ≠ r) (s : List UInt8) (hl : s.length ≤ 1000000) (k fl : Int) (eo ep : TypeId) (oo op po pp oc : Bool) (g gp : FuncId) (xs ys : List PV) (l : List PV) (hlw : l.length = 6) (hnf : nfl l = true) (rds : List Nm) (hrd : ∀ n ∈ rds, n.l ≤ L ∧ n ≠ r)
  (hFr : F r = some (rdB s 0)) (hFo : F nof = some (.rows eo 1 oo po [[.fn (.func g) xs ys]])) (hFp : F npt = some (.rows ep 1 op pp [[.fn (.func gp) [] []]])) (hFc : F nc = some (.rows 34 3 oc true [[.int .i64 k, .int .i64 fl, .str s]]))
  (hg : OfDie g xs ys s F rds) : DCon Tryz.prog chM 122 [.ptr r 0 0, .ptr nof 0 0, .ptr npt 0 0, .ptr nc 0 0] F L [(r, .dead)] (r :: nof :: npt :: nc :: rds) := by
 refine DCon.body (cxOk (L + 1)) rfl rfl (fn := Tryz.f122) (c := Tryz.f122.body.getD .skip) (by kernel_rfl) (by rfl) (by kernel_rfl) rfl  (by intro n hn; simp at hn; rcases hn with rfl | rfl | rfl | rfl | hn <;> first | assumption | exact (hrd n hn).1) ?_
 intro F3 hF1 hF2
 have kr : F3 r = some (rdB s 0) := (hF1 r (by simp)).trans hFr
 have ko : F3 nof = some (.rows eo 1 oo po [[.fn (.func g) xs ys]]) := (hF1 nof (by simp)).trans hFo
 have kp : F3 npt = some (.rows ep 1 op pp [[.fn (.func gp) [] []]]) := (hF1 npt (by simp)).trans hFp
 have kc : F3 nc = some (.rows 34 3 oc true [[.int .i64 k, .int .i64 fl, .str s]]) := (hF1 nc (by simp)).trans hFc
 have n1 : ∀ k, (r = (⟨L + 1, k⟩ : Nm)) = False := nm_out hr
 have n2 : ∀ k, ((⟨L + 1, k⟩ : Nm) = r) = False := nm_out' hr
 have o1 : ∀ k, (nof = (⟨L + 1, k⟩ : Nm)) = False := nm_out hof
 have o2 : ∀ k, (npt = (⟨L + 1, k⟩ : Nm)) = False := nm_out hpt
 have o3 : ∀ k, (nc = (⟨L + 1, k⟩ : Nm)) = False := nm_out hc
 have e1 : (nof = r) = False := eq_false d1
 have e2 : (npt = r) = False := eq_false d2
 have e3 : (nc = r) = False := eq_false d3
 simp only [Tryz.f122, cx, ko, o1, go_sem, meths]
 refine CallVD.same rfl (hg _ (L + 1) r (fun n hn => ?_) (by omega) (fun n hn => by have := (hrd n hn).1; omega) (by simp [Tx.look, n1, kr])) ?_
 ·have e5 : ∀ k, (n = (⟨L + 1, k⟩ : Nm)) = False := nm_out (hrd n hn).1
  simp [Tx.look, e5, hF1 n (by simp [hn])]
 exact .dead (ns := [r]) (by simpa using hr) (by simp [UpdAll, updH, setH, n1, n2])
theorem getInit1_dieAt {F : SF} {L : Nat} (r nof npt nc : Nm) (hr : r.l ≤ L) (hof : nof.l ≤ L) (hpt : npt.l ≤ L) (hc : nc.l ≤ L) (d1 : nof ≠ r) (d2 : npt ≠ r) (d3 : nc ≠ r) (s : List UInt8) (hl : s.length ≤ 1000000) (k fl : Int) (eo ep : TypeId) (oo op po pp oc : Bool) (g gp : FuncId) (xs ys : List PV) (l : List PV) (hlw : l.length = 6) (hnf : nfl l = true) (rds : List Nm) (hrd : ∀ n ∈ rds, n.l ≤ L ∧ n ≠ r)
  (hFr : F r = some (rdB s 0)) (hFo : F nof = some (.rows eo 1 oo po [[.fn (.func g) xs ys]])) (hFp : F npt = some (.rows ep 1 op pp [[.fn (.func gp) [] []]])) (hFc : F nc = some (.rows 34 3 oc true [[.int .i64 k, .int .i64 fl, .str s]]))
  (p : Nat) (hps : p ≠ s.length) (hg : OfOk g xs ys s (.agg l) p F rds) : DCon Tryz.prog chM 122 [.ptr r 0 0, .ptr nof 0 0, .ptr npt 0 0, .ptr nc 0 0] F L [(r, .dead)] (r :: nof :: npt :: nc :: rds) := by
 refine DCon.body (cxOk (L + 1)) rfl rfl (fn := Tryz.f122) (c := Tryz.f122.body.getD .skip) (by kernel_rfl) (by rfl) (by kernel_rfl) rfl  (by intro n hn; simp at hn; rcases hn with rfl | rfl | rfl | rfl | hn <;> first | assumption | exact (hrd n hn).1) ?_
 intro F3 hF1 hF2
 have kr : F3 r = some (rdB s 0) := (hF1 r (by simp)).trans hFr
 have ko : F3 nof = some (.rows eo 1 oo po [[.fn (.func g) xs ys]]) := (hF1 nof (by simp)).trans hFo
 have kp : F3 npt = some (.rows ep 1 op pp [[.fn (.func gp) [] []]]) := (hF1 npt (by simp)).trans hFp
 have kc : F3 nc = some (.rows 34 3 oc true [[.int .i64 k, .int .i64 fl, .str s]]) := (hF1 nc (by simp)).trans hFc
 have n1 : ∀ k, (r = (⟨L + 1, k⟩ : Nm)) = False := nm_out hr
 have n2 : ∀ k, ((⟨L + 1, k⟩ : Nm) = r) = False := nm_out' hr
 have o1 : ∀ k, (nof = (⟨L + 1, k⟩ : Nm)) = False := nm_out hof
 have o2 : ∀ k, (npt = (⟨L + 1, k⟩ : Nm)) = False := nm_out hpt
 have o3 : ∀ k, (nc = (⟨L + 1, k⟩ : Nm)) = False := nm_out hc
 have e1 : (nof = r) = False := eq_false d1
 have e2 : (npt = r) = False := eq_false d2
 have e3 : (nc = r) = False := eq_false d3
 simp only [Tryz.f122, cx, ko, o1, go_sem, meths]
 refine CallVD.live (CallVC.same (hg _ (L + 1) r _ (fun n hn => ?_) (by omega) (fun n hn => by have := (hrd n hn).1; omega) (by simp [n1, kr])) ?_)
 ·have e5 : ∀ k, (n = (⟨L + 1, k⟩ : Nm)) = False := nm_out (hrd n hn).1
  simp [e5, hF1 n (by simp [hn])]
 simp only [rdB, kr, n1, n2, hlw, hnf, Nat.add_zero, go_sem]
 have f1 : ((p : Int) == (s.length : Int)) = false := eqF (by omega)
 repeat refine sd1 ?_
 refine RegVD.dieAt 12 [] rfl (by simp) rfl (by kernel_rfl) ?_
 simp only [f1, rdB, kr, n1, Nat.add_zero, go_sem]
 refine dieX.same must_die ?_
 simp only [go_sem]
 repeat refine sd1 ?_
 exact fun nz => PostD.all (ns := [r]) rfl (by simpa using hr) (by simp [UpdAll, n2]) (by simp [keys])
theorem getInit1_dieBack {F : SF} {L : Nat} (r nof npt nc : Nm) (hr : r.l ≤ L) (hof : nof.l ≤ L) (hpt : npt.l ≤ L) (hc : nc.l ≤ L) (d1 : nof ≠ r) (d2 : npt ≠ r) (d3 : nc ≠ r) (s : List UInt8) (hl : s.length ≤ 1000000) (k fl : Int) (eo ep : TypeId) (oo op po pp oc : Bool) (g gp : FuncId) (xs ys : List PV) (l : List PV) (hlw : l.length = 6) (hnf : nfl l = true) (rds : List Nm) (hrd : ∀ n ∈ rds, n.l ≤ L ∧ n ≠ r)
  (hFr : F r = some (rdB s 0)) (hFo : F nof = some (.rows eo 1 oo po [[.fn (.func g) xs ys]])) (hFp : F npt = some (.rows ep 1 op pp [[.fn (.func gp) [] []]])) (hFc : F nc = some (.rows 34 3 oc true [[.int .i64 k, .int .i64 fl, .str s]]))
  (hg : OfOk g xs ys s (.agg l) s.length F rds) (k2 fl2 e2 : Int) (b2 : List UInt8) (hp : PutOk gp l k2 fl2 b2 e2) (hne : ¬(e2 = 0 ∧ k2 = k ∧ fl2 = fl ∧ b2 = s)) : DCon Tryz.prog chM 122 [.ptr r 0 0, .ptr nof 0 0, .ptr npt 0 0, .ptr nc 0 0] F L [(r, .dead)] (r :: nof :: npt :: nc :: rds) := by
 refine DCon.body (cxOk (L + 1)) rfl rfl (fn := Tryz.f122) (c := Tryz.f122.body.getD .skip) (by kernel_rfl) (by rfl) (by kernel_rfl) rfl  (by intro n hn; simp at hn; rcases hn with rfl | rfl | rfl | rfl | hn <;> first | assumption | exact (hrd n hn).1) ?_
 intro F3 hF1 hF2
 have kr : F3 r = some (rdB s 0) := (hF1 r (by simp)).trans hFr
 have ko : F3 nof = some (.rows eo 1 oo po [[.fn (.func g) xs ys]]) := (hF1 nof (by simp)).trans hFo
 have kp : F3 npt = some (.rows ep 1 op pp [[.fn (.func gp) [] []]]) := (hF1 npt (by simp)).trans hFp
 have kc : F3 nc = some (.rows 34 3 oc true [[.int .i64 k, .int .i64 fl, .str s]]) := (hF1 nc (by simp)).trans hFc
 have n1 : ∀ k, (r = (⟨L + 1, k⟩ : Nm)) = False := nm_out hr
 have n2 : ∀ k, ((⟨L + 1, k⟩ : Nm) = r) = False := nm_out' hr
 have o1 : ∀ k, (nof = (⟨L + 1, k⟩ : Nm)) = False := nm_out hof
 have o2 : ∀ k, (npt = (⟨L + 1, k⟩ : Nm)) = False := nm_out hpt
 have o3 : ∀ k, (nc = (⟨L + 1, k⟩ : Nm)) = False := nm_out hc
 have e1 : (nof = r) = False := eq_false d1
 have e2' : (npt = r) = False := eq_false d2
 have e3 : (nc = r) = False := eq_false d3
 simp only [Tryz.f122, cx, ko, o1, go_sem, meths]
 refine CallVD.live (CallVC.same (hg _ (L + 1) r _ (fun n hn => ?_) (by omega) (fun n hn => by have := (hrd n hn).1; omega) (by simp [n1, kr])) ?_)
 ·have e5 : ∀ k, (n = (⟨L + 1, k⟩ : Nm)) = False := nm_out (hrd n hn).1
  simp [e5, hF1 n (by simp [hn])]
 simp only [rdB, kr, n1, n2, hlw, hnf, Nat.add_zero, go_sem]
 repeat refine sd1 ?_
 refine RegVD.live ?_
 repeat refine sd1 ?_
 refine CallVC.sameP must_ok rfl ?_
 simp only [kp, n2, o2, e2', go_sem]
 repeat refine sd1 ?_
 refine CallVD.live (CallVC.sameP (hp _ _ _) rfl ?_)
 simp only [kc, n2, o3, e3, go_sem]
 repeat refine sd1 ?_
 refine brB.mk (fun h => ?_) (fun h => ?_)
 ·have h1 : e2 = 0 := by simpa using h
  have f2 : (k2 == k && (fl2 == fl && b2 == s)) = false := by
   rw [Bool.eq_false_iff]
   intro h2
   simp only [Bool.and_eq_true, beq_iff_eq] at h2
   exact hne ⟨h1, h2.1, h2.2.1, h2.2.2⟩
  simp only [f2]
  refine CallVD.same rfl must_die ?_
  exact .dead (ns := [r]) (by simpa using hr) (by simp [UpdAll, updH, n2])
 ·simp only [h, Bool.not_true, go_sem]
  refine CallVD.same rfl must_die ?_
  exact .dead (ns := [r]) (by simpa using hr) (by simp [UpdAll, updH, n2])
theorem getInit_kind {F : SF} {L nx : Nat} (s : List UInt8) (k fl : Int) (g gp : FuncId) (xs ys : List PV) (ks : List Int) (hk : (ks.any fun x => k == x) = false) (hks : ks.length ≤ 1000) :
  Con Tryz.prog 87 [.agg [.int .i64 k, .int .i64 fl, .str s], .fn (.func g) xs ys, .fn (.func gp) [] [], .fs 1 (ks.map eI)] F L nx nx (.tup [.agg [.int .i64 0, .int .i64 0, .int .i64 0, .int .i64 0, .int .i64 0, .str []], .int .i64 2]) [] [] := by
 refine bdy Tryz.f87 ?_
 intro F3 hF1 hF2
 simp only [Tryz.f87, cx, Nat.add_zero, go_sem, meths]
 refine CallVC.sameP (contains_ok ks k (by omega)) rfl ?_
 simp only [hk, go_sem]
 repeat refine sd1 ?_
 exact PostF.rs (v0 := .tup [.agg [.int .i64 0, .int .i64 0, .int .i64 0, .int .i64 0, .int .i64 0, .str []], .int .i64 2]) (.inr rfl)
theorem getInit_ok {F : SF} {L nx : Nat} (s : List UInt8) (hl : s.length ≤ 1000000) (k fl : Int) (g gp : FuncId) (xs ys : List PV) (ks : List Int) (hk : (ks.any fun x => k == x) = true) (hks : ks.length ≤ 1000) (l : List PV) (hlw : l.length = 6) (hnf : nfl l = true) (rds : List Nm) (hrd : ∀ n ∈ rds, n.l ≤ L)
  (hg : OfOk g xs ys s (.agg l) s.length F rds) (hp : PutOk gp l k fl s 0) : Con Tryz.prog 87 [.agg [.int .i64 k, .int .i64 fl, .str s], .fn (.func g) xs ys, .fn (.func gp) [] [], .fs 1 (ks.map eI)] F L nx nx (.tup [.agg l, .int .i64 0]) [] rds := by
 refine bdy Tryz.f87 (hrd := hrd) ?_
 intro F3 hF1 hF2
 simp only [Tryz.f87, cx, Nat.add_zero, go_sem, meths]
 refine CallVC.sameP (contains_ok ks k (by omega)) rfl ?_
 simp only [hk, go_sem]
 repeat refine sd1 ?_
 refine CallVC.same (readInit_ok s 122 [] [.ptr ⟨L + 1, 32⟩ 0 0, .ptr ⟨L + 1, 64⟩ 0 0, .ptr ⟨L + 1, 0⟩ 0 0] l hlw hnf (⟨L + 1, 32⟩ :: ⟨L + 1, 64⟩ :: ⟨L + 1, 0⟩ :: rds) (fun n hn => ?_) ?_) ?_
 ·simp only [List.mem_cons] at hn
  rcases hn with rfl | rfl | rfl | hn <;> first | exact Nat.le_refl _ | (have := hrd n hn; omega)
 ·intro F' r nx' hF' hr hFr
  have hne : ∀ (m : Nm), m.l ≤ L + 1 → m ≠ r := fun m hm e => by rw [e, hr] at hm; omega
  refine getInit1_ok r ⟨L + 1, 32⟩ ⟨L + 1, 64⟩ ⟨L + 1, 0⟩ (Nat.le_of_eq hr) (by simp) (by simp) (by simp) (hne _ (Nat.le_refl _)) (hne _ (Nat.le_refl _)) (hne _ (Nat.le_refl _)) s hl k fl _ _ _ _ _ _ _ g gp xs ys l hlw hnf rds (fun n hn => ⟨by have := hrd n hn; omega, hne n (by have := hrd n hn; omega)⟩) hFr ((hF' _ (by simp)).trans (by simp; first | exact ⟨rfl, rfl, rfl⟩ | exact ⟨rfl, rfl⟩ | rfl)) ((hF' _ (by simp)).trans (by simp; first | exact ⟨rfl, rfl, rfl⟩ | exact ⟨rfl, rfl⟩ | rfl)) ((hF' _ (by simp)).trans (by simp; first | exact ⟨rfl, rfl, rfl⟩ | exact ⟨rfl, rfl⟩ | rfl)) (hg.agree fun n hn => ?_) hp
  have e5 : ∀ k, (n = (⟨L + 1, k⟩ : Nm)) = False := nm_out (hrd n hn)
  rw [hF' n (by simp [hn])]
  simp [e5, hF1 n hn]
 simp only [hlw, hnf, go_sem]
 repeat refine sd1 ?_
 exact PostF.of (p := True) (v0 := .tup [.agg l, .int .i64 0]) (.inr rfl) (by simp only [resVal, resVals, resVal1, one, go_sem]) trivial (wk_refl _ _).1 (by rw [(wk_refl (fun _ => none) _).2]; simp) (by simp only [Tx.nf, nfl, hnf]; rfl) trivial (by simp [UpdAll, keys])
theorem getInit_bad {F : SF} {L nx : Nat} (s : List UInt8) (hl : s.length ≤ 1000000) (k fl : Int) (g gp : FuncId) (xs ys : List PV) (ks : List Int) (hk : (ks.any fun x => k == x) = true) (hks : ks.length ≤ 1000) (rds : List Nm) (hrd : ∀ n ∈ rds, n.l ≤ L)
  (hg : GetBad g gp xs ys s k fl 6 F rds) : Con Tryz.prog 87 [.agg [.int .i64 k, .int .i64 fl, .str s], .fn (.func g) xs ys, .fn (.func gp) [] [], .fs 1 (ks.map eI)] F L nx nx (.tup [.agg [.int .i64 0, .int .i64 0, .int .i64 0, .int .i64 0, .int .i64 0, .str []], .int .i64 5]) [] rds := by
 refine bdy Tryz.f87 (hrd := hrd) ?_
 intro F3 hF1 hF2
 simp only [Tryz.f87, cx, Nat.add_zero, go_sem, meths]
 refine CallVC.sameP (contains_ok ks k (by omega)) rfl ?_
 simp only [hk, go_sem]
 repeat refine sd1 ?_
 refine CallVC.same (readInit_die s 122 [] [.ptr ⟨L + 1, 32⟩ 0 0, .ptr ⟨L + 1, 64⟩ 0 0, .ptr ⟨L + 1, 0⟩ 0 0] (⟨L + 1, 32⟩ :: ⟨L + 1, 64⟩ :: ⟨L + 1, 0⟩ :: rds) (fun n hn => ?_) ?_) ?_
 ·simp only [List.mem_cons] at hn
  rcases hn with rfl | rfl | rfl | hn <;> first | exact Nat.le_refl _ | (have := hrd n hn; omega)
 ·intro F' r hF' hr hFr
  have hne : ∀ (m : Nm), m.l ≤ L + 1 → m ≠ r := fun m hm e => by rw [e, hr] at hm; omega
  have hag : ∀ n ∈ rds, F' n = F n := fun n hn => by
   have e5 : ∀ k, (n = (⟨L + 1, k⟩ : Nm)) = False := nm_out (hrd n hn)
   rw [hF' n (by simp [hn])]
   simp [e5, hF1 n hn]
  have hrd' : ∀ n ∈ rds, n.l ≤ L + 1 + 2 ∧ n ≠ r := fun n hn => ⟨by have := hrd n hn; omega, hne n (by have := hrd n hn; omega)⟩
  rcases hg with hg | ⟨l, p, hlw, hnf, hp, hg⟩ | ⟨l, k2, fl2, e2, b2, hlw, hnf, hg, hp, hb⟩
  ·exact getInit1_dieOf r ⟨L + 1, 32⟩ ⟨L + 1, 64⟩ ⟨L + 1, 0⟩ (Nat.le_of_eq hr) (by simp) (by simp) (by simp) (hne _ (Nat.le_refl _)) (hne _ (Nat.le_refl _)) (hne _ (Nat.le_refl _)) s hl k fl _ _ _ _ _ _ _ g gp xs ys (List.replicate 6 (.bool false)) (by simp) (by rfl) rds hrd' hFr ((hF' _ (by simp)).trans (by simp; first | exact ⟨rfl, rfl, rfl⟩ | exact ⟨rfl, rfl⟩ | rfl)) ((hF' _ (by simp)).trans (by simp; first | exact ⟨rfl, rfl, rfl⟩ | exact ⟨rfl, rfl⟩ | rfl)) ((hF' _ (by simp)).trans (by simp; first | exact ⟨rfl, rfl, rfl⟩ | exact ⟨rfl, rfl⟩ | rfl)) (hg.agree hag)
  ·exact getInit1_dieAt r ⟨L + 1, 32⟩ ⟨L + 1, 64⟩ ⟨L + 1, 0⟩ (Nat.le_of_eq hr) (by simp) (by simp) (by simp) (hne _ (Nat.le_refl _)) (hne _ (Nat.le_refl _)) (hne _ (Nat.le_refl _)) s hl k fl _ _ _ _ _ _ _ g gp xs ys l hlw hnf rds hrd' hFr ((hF' _ (by simp)).trans (by simp; first | exact ⟨rfl, rfl, rfl⟩ | exact ⟨rfl, rfl⟩ | rfl)) ((hF' _ (by simp)).trans (by simp; first | exact ⟨rfl, rfl, rfl⟩ | exact ⟨rfl, rfl⟩ | rfl)) ((hF' _ (by simp)).trans (by simp; first | exact ⟨rfl, rfl, rfl⟩ | exact ⟨rfl, rfl⟩ | rfl)) p hp (hg.agree hag)
  ·exact getInit1_dieBack r ⟨L + 1, 32⟩ ⟨L + 1, 64⟩ ⟨L + 1, 0⟩ (Nat.le_of_eq hr) (by simp) (by simp) (by simp) (hne _ (Nat.le_refl _)) (hne _ (Nat.le_refl _)) (hne _ (Nat.le_refl _)) s hl k fl _ _ _ _ _ _ _ g gp xs ys l hlw hnf rds hrd' hFr ((hF' _ (by simp)).trans (by simp; first | exact ⟨rfl, rfl, rfl⟩ | exact ⟨rfl, rfl⟩ | rfl)) ((hF' _ (by simp)).trans (by simp; first | exact ⟨rfl, rfl, rfl⟩ | exact ⟨rfl, rfl⟩ | rfl)) ((hF' _ (by simp)).trans (by simp; first | exact ⟨rfl, rfl, rfl⟩ | exact ⟨rfl, rfl⟩ | rfl)) (hg.agree hag) k2 fl2 e2 b2 hp hb
 simp only [go_sem]
 repeat refine sd1 ?_
 exact PostF.rs (v0 := .tup [.agg [.int .i64 0, .int .i64 0, .int .i64 0, .int .i64 0, .int .i64 0, .str []], .int .i64 5]) (.inr rfl)
theorem getSack1_ok {F : SF} {L nx : Nat} (r nof npt nc : Nm) (hr : r.l ≤ L) (hof : nof.l ≤ L) (hpt : npt.l ≤ L) (hc : nc.l ≤ L) (d1 : nof ≠ r) (d2 : npt ≠ r) (d3 : nc ≠ r) (s : List UInt8) (hl : s.length ≤ 1000000) (k fl : Int) (eo ep : TypeId) (oo op po pp oc : Bool) (g gp : FuncId) (xs ys : List PV) (l : List PV) (hlw : l.length = 4) (hnf : nfl l = true) (rds : List Nm) (hrd : ∀ n ∈ rds, n.l ≤ L ∧ n ≠ r)
  (hFr : F r = some (rdB s 0)) (hFo : F nof = some (.rows eo 1 oo po [[.fn (.func g) xs ys]])) (hFp : F npt = some (.rows ep 1 op pp [[.fn (.func gp) [] []]])) (hFc : F nc = some (.rows 34 3 oc true [[.int .i64 k, .int .i64 fl, .str s]]))
  (hg : OfOk g xs ys s (.agg l) s.length F rds) (hp : PutOk gp l k fl s 0) : Con Tryz.prog 124 [.ptr r 0 0, .ptr nof 0 0, .ptr npt 0 0, .ptr nc 0 0] F L nx nx (.agg l) [(r, .dead)] (r :: nof :: npt :: nc :: rds) := by
 refine bdy Tryz.f124 (hrd := (by intro n hn; simp at hn; rcases hn with rfl | rfl | rfl | rfl | hn <;> first | assumption | exact (hrd n hn).1)) ?_
 intro F3 hF1 hF2
 have kr : F3 r = some (rdB s 0) := (hF1 r (by simp)).trans hFr
 have ko : F3 nof = some (.rows eo 1 oo po [[.fn (.func g) xs ys]]) := (hF1 nof (by simp)).trans hFo
 have kp : F3 npt = some (.rows ep 1 op pp [[.fn (.func gp) [] []]]) := (hF1 npt (by simp)).trans hFp
 have kc : F3 nc = some (.rows 34 3 oc true [[.int .i64 k, .int .i64 fl, .str s]]) := (hF1 nc (by simp)).trans hFc
 have n1 : ∀ k, (r = (⟨L + 1, k⟩ : Nm)) = False := nm_out hr
 have n2 : ∀ k, ((⟨L + 1, k⟩ : Nm) = r) = False := nm_out' hr
 have o1 : ∀ k, (nof = (⟨L + 1, k⟩ : Nm)) = False := nm_out hof
 have o2 : ∀ k, (npt = (⟨L + 1, k⟩ : Nm)) = False := nm_out hpt
 have o3 : ∀ k, (nc = (⟨L + 1, k⟩ : Nm)) = False := nm_out hc
 have e1 : (nof = r) = False := eq_false d1
 have e2 : (npt = r) = False := eq_false d2
 have e3 : (nc = r) = False := eq_false d3
 simp only [Tryz.f124, cx, ko, o1, go_sem, meths]
 refine CallVC.same (hg _ (L + 1) r _ (fun n hn => ?_) (by omega) (fun n hn => by have := (hrd n hn).1; omega) (by simp [n1, kr])) ?_
 ·have e5 : ∀ k, (n = (⟨L + 1, k⟩ : Nm)) = False := nm_out (hrd n hn).1
  simp [e5, hF1 n (by simp [hn])]
 simp only [rdB, kr, n1, n2, hlw, hnf, Nat.add_zero, go_sem]
 repeat refine sd1 ?_
 refine CallVC.sameP must_ok rfl ?_
 simp only [kp, n2, o2, e2, go_sem]
 repeat refine sd1 ?_
 refine CallVC.sameP (hp _ _ _) rfl ?_
 simp only [kc, n2, o3, e3, go_sem]
 repeat refine sd1 ?_
 refine CallVC.sameP must_ok rfl ?_
 simp only [n2, hlw, hnf, go_sem]
 repeat refine sd1 ?_
 exact PostF.of (p := True) (v0 := .agg l) (.inr rfl) (by simp only [resVal, resVals, resVal1, one, go_sem]) trivial (wk_refl _ _).1 (by rw [(wk_refl (fun _ => none) _).2]; simp) (by simp only [Tx.nf]; exact hnf) ⟨hr, BW_dead, trivial⟩ (by simp [UpdAll, keys])
theorem getSack1_dieOf {F : SF} {L : Nat} (r nof npt nc : Nm) (hr : r.l ≤ L) (hof : nof.l ≤ L) (hpt : npt.l ≤ L) (hc : nc.l ≤ L) (d1 : nof ≠ r) (d2 : npt ≠ r) (d3 : nc ≠ r) (s : List UInt8) (hl : s.length ≤ 1000000) (k fl : Int) (eo ep : TypeId) (oo op po pp oc : Bool) (g gp : FuncId) (xs ys : List PV) (l : List PV) (hlw : l.length = 4) (hnf : nfl l = true) (rds : List Nm) (hrd : ∀ n ∈ rds, n.l ≤ L ∧ n ≠ r)
  (hFr : F r = some (rdB s 0)) (hFo : F nof = some (.rows eo 1 oo po [[.fn (.func g) xs ys]])) (hFp : F npt = some (.rows ep 1 op pp [[.fn (.func gp) [] []]])) (hFc : F nc = some (.rows 34 3 oc true [[.int .i64 k, .int .i64 fl, .str s]]))
  (hg : OfDie g xs ys s F rds) : DCon Tryz.prog chM 124 [.ptr r 0 0, .ptr nof 0 0, .ptr npt 0 0, .ptr nc 0 0] F L [(r, .dead)] (r :: nof :: npt :: nc :: rds) := by
 refine DCon.body (cxOk (L + 1)) rfl rfl (fn := Tryz.f124) (c := Tryz.f124.body.getD .skip) (by kernel_rfl) (by rfl) (by kernel_rfl) rfl  (by intro n hn; simp at hn; rcases hn with rfl | rfl | rfl | rfl | hn <;> first | assumption | exact (hrd n hn).1) ?_
 intro F3 hF1 hF2
 have kr : F3 r = some (rdB s 0) := (hF1 r (by simp)).trans hFr
 have ko : F3 nof = some (.rows eo 1 oo po [[.fn (.func g) xs ys]]) := (hF1 nof (by simp)).trans hFo
 have kp : F3 npt = some (.rows ep 1 op pp [[.fn (.func gp) [] []]]) := (hF1 npt (by simp)).trans hFp
 have kc : F3 nc = some (.rows 34 3 oc true [[.int .i64 k, .int .i64 fl, .str s]]) := (hF1 nc (by simp)).trans hFc
 have n1 : ∀ k, (r = (⟨L + 1, k⟩ : Nm)) = False := nm_out hr
 have n2 : ∀ k, ((⟨L + 1, k⟩ : Nm) = r) = False := nm_out' hr
 have o1 : ∀ k, (nof = (⟨L + 1, k⟩ : Nm)) = False := nm_out hof
 have o2 : ∀ k, (npt = (⟨L + 1, k⟩ : Nm)) = False := nm_out hpt
 have o3 : ∀ k, (nc = (⟨L + 1, k⟩ : Nm)) = False := nm_out hc
 have e1 : (nof = r) = False := eq_false d1
 have e2 : (npt = r) = False := eq_false d2
 have e3 : (nc = r) = False := eq_false d3
 simp only [Tryz.f124, cx, ko, o1, go_sem, meths]
 refine CallVD.same rfl (hg _ (L + 1) r (fun n hn => ?_) (by omega) (fun n hn => by have := (hrd n hn).1; omega) (by simp [Tx.look, n1, kr])) ?_
 ·have e5 : ∀ k, (n = (⟨L + 1, k⟩ : Nm)) = False := nm_out (hrd n hn).1
  simp [Tx.look, e5, hF1 n (by simp [hn])]
 exact .dead (ns := [r]) (by simpa using hr) (by simp [UpdAll, updH, setH, n1, n2])
theorem getSack1_dieAt {F : SF} {L : Nat} (r nof npt nc : Nm) (hr : r.l ≤ L) (hof : nof.l ≤ L) (hpt : npt.l ≤ L) (hc : nc.l ≤ L) (d1 : nof ≠ r) (d2 : npt ≠ r) (d3 : nc ≠ r) (s : List UInt8) (hl : s.length ≤ 1000000) (k fl : Int) (eo ep : TypeId) (oo op po pp oc : Bool) (g gp : FuncId) (xs ys : List PV) (l : List PV) (hlw : l.length = 4) (hnf : nfl l = true) (rds : List Nm) (hrd : ∀ n ∈ rds, n.l ≤ L ∧ n ≠ r)
  (hFr : F r = some (rdB s 0)) (hFo : F nof = some (.rows eo 1 oo po [[.fn (.func g) xs ys]])) (hFp : F npt = some (.rows ep 1 op pp [[.fn (.func gp) [] []]])) (hFc : F nc = some (.rows 34 3 oc true [[.int .i64 k, .int .i64 fl, .str s]]))
  (p : Nat) (hps : p ≠ s.length) (hg : OfOk g xs ys s (.agg l) p F rds) : DCon Tryz.prog chM 124 [.ptr r 0 0, .ptr nof 0 0, .ptr npt 0 0, .ptr nc 0 0] F L [(r, .dead)] (r :: nof :: npt :: nc :: rds) := by
 refine DCon.body (cxOk (L + 1)) rfl rfl (fn := Tryz.f124) (c := Tryz.f124.body.getD .skip) (by kernel_rfl) (by rfl) (by kernel_rfl) rfl  (by intro n hn; simp at hn; rcases hn with rfl | rfl | rfl | rfl | hn <;> first | assumption | exact (hrd n hn).1) ?_
 intro F3 hF1 hF2
 have kr : F3 r = some (rdB s 0) := (hF1 r (by simp)).trans hFr
 have ko : F3 nof = some (.rows eo 1 oo po [[.fn (.func g) xs ys]]) := (hF1 nof (by simp)).trans hFo
 have kp : F3 npt = some (.rows ep 1 op pp [[.fn (.func gp) [] []]]) := (hF1 npt (by simp)).trans hFp
 have kc : F3 nc = some (.rows 34 3 oc true [[.int .i64 k, .int .i64 fl, .str s]]) := (hF1 nc (by simp)).trans hFc
 have n1 : ∀ k, (r = (⟨L + 1, k⟩ : Nm)) = False := nm_out hr
 have n2 : ∀ k, ((⟨L + 1, k⟩ : Nm) = r) = False := nm_out' hr
 have o1 : ∀ k, (nof = (⟨L + 1, k⟩ : Nm)) = False := nm_out hof
 have o2 : ∀ k, (npt = (⟨L + 1, k⟩ : Nm)) = False := nm_out hpt
 have o3 : ∀ k, (nc = (⟨L + 1, k⟩ : Nm)) = False := nm_out hc
 have e1 : (nof = r) = False := eq_false d1
 have e2 : (npt = r) = False := eq_false d2
 have e3 : (nc = r) = False := eq_false d3
 simp only [Tryz.f124, cx, ko, o1, go_sem, meths]
 refine CallVD.live (CallVC.same (hg _ (L + 1) r _ (fun n hn => ?_) (by omega) (fun n hn => by have := (hrd n hn).1; omega) (by simp [n1, kr])) ?_)
 ·have e5 : ∀ k, (n = (⟨L + 1, k⟩ : Nm)) = False := nm_out (hrd n hn).1
  simp [e5, hF1 n (by simp [hn])]
 simp only [rdB, kr, n1, n2, hlw, hnf, Nat.add_zero, go_sem]
 have f1 : ((p : Int) == (s.length : Int)) = false := eqF (by omega)
 repeat refine sd1 ?_
 refine RegVD.dieAt 12 [] rfl (by simp) rfl (by kernel_rfl) ?_
 simp only [f1, rdB, kr, n1, Nat.add_zero, go_sem]
 refine dieX.same must_die ?_
 simp only [go_sem]
 repeat refine sd1 ?_
 exact fun nz => PostD.all (ns := [r]) rfl (by simpa using hr) (by simp [UpdAll, n2]) (by simp [keys])
theorem getSack1_dieBack {F : SF} {L : Nat} (r nof npt nc : Nm) (hr : r.l ≤ L) (hof : nof.l ≤ L) (hpt : npt.l ≤ L) (hc : nc.l ≤ L) (d1 : nof ≠ r) (d2 : npt ≠ r) (d3 : nc ≠ r) (s : List UInt8) (hl : s.length ≤ 1000000) (k fl : Int) (eo ep : TypeId) (oo op po pp oc : Bool) (g gp : FuncId) (xs ys : List PV) (l : List PV) (hlw : l.length = 4) (hnf : nfl l = true) (rds : List Nm) (hrd : ∀ n ∈ rds, n.l ≤ L ∧ n ≠ r)
  (hFr : F r = some (rdB s 0)) (hFo : F nof = some (.rows eo 1 oo po [[.fn (.func g) xs ys]])) (hFp : F npt = some (.rows ep 1 op pp [[.fn (.func gp) [] []]])) (hFc : F nc = some (.rows 34 3 oc true [[.int .i64 k, .int .i64 fl, .str s]]))
  (hg : OfOk g xs ys s (.agg l) s.length F rds) (k2 fl2 e2 : Int) (b2 : List UInt8) (hp : PutOk gp l k2 fl2 b2 e2) (hne : ¬(e2 = 0 ∧ k2 = k ∧ fl2 = fl ∧ b2 = s)) : DCon Tryz.prog chM 124 [.ptr r 0 0, .ptr nof 0 0, .ptr npt 0 0, .ptr nc 0 0] F L [(r, .dead)] (r :: nof :: npt :: nc :: rds) := by
 refine DCon.body (cxOk (L + 1)) rfl rfl (fn := Tryz.f124) (c := Tryz.f124.body.getD .skip) (by kernel_rfl) (by rfl) (by kernel_rfl) rfl  (by intro n hn; simp at hn; rcases hn with rfl | rfl | rfl | rfl | hn <;> first | assumption | exact (hrd n hn).1) ?_
 intro F3 hF1 hF2
 have kr : F3 r = some (rdB s 0) := (hF1 r (by simp)).trans hFr
 have ko : F3 nof = some (.rows eo 1 oo po [[.fn (.func g) xs ys]]) := (hF1 nof (by simp)).trans hFo
 have kp : F3 npt = some (.rows ep 1 op pp [[.fn (.func gp) [] []]]) := (hF1 npt (by simp)).trans hFp
 have kc : F3 nc = some (.rows 34 3 oc true [[.int .i64 k, .int .i64 fl, .str s]]) := (hF1 nc (by simp)).trans hFc
 have n1 : ∀ k, (r = (⟨L + 1, k⟩ : Nm)) = False := nm_out hr
 have n2 : ∀ k, ((⟨L + 1, k⟩ : Nm) = r) = False := nm_out' hr
 have o1 : ∀ k, (nof = (⟨L + 1, k⟩ : Nm)) = False := nm_out hof
 have o2 : ∀ k, (npt = (⟨L + 1, k⟩ : Nm)) = False := nm_out hpt
 have o3 : ∀ k, (nc = (⟨L + 1, k⟩ : Nm)) = False := nm_out hc
 have e1 : (nof = r) = False := eq_false d1
 have e2' : (npt = r) = False := eq_false d2
 have e3 : (nc = r) = False := eq_false d3
 simp only [Tryz.f124, cx, ko, o1, go_sem, meths]
 refine CallVD.live (CallVC.same (hg _ (L + 1) r _ (fun n hn => ?_) (by omega) (fun n hn => by have := (hrd n hn).1; omega) (by simp [n1, kr])) ?_)
 ·have e5 : ∀ k, (n = (⟨L + 1, k⟩ : Nm)) = False := nm_out (hrd n hn).1
  simp [e5, hF1 n (by simp [hn])]
 simp only [rdB, kr, n1, n2, hlw, hnf, Nat.add_zero, go_sem]
 repeat refine sd1 ?_
 refine RegVD.live ?_
 repeat refine sd1 ?_
 refine CallVC.sameP must_ok rfl ?_
 simp only [kp, n2, o2, e2', go_sem]
 repeat refine sd1 ?_
 refine CallVD.live (CallVC.sameP (hp _ _ _) rfl ?_)
 simp only [kc, n2, o3, e3, go_sem]
 repeat refine sd1 ?_
 refine brB.mk (fun h => ?_) (fun h => ?_)
 ·have h1 : e2 = 0 := by simpa using h
  have f2 : (k2 == k && (fl2 == fl && b2 == s)) = false := by
   rw [Bool.eq_false_iff]
   intro h2
   simp only [Bool.and_eq_true, beq_iff_eq] at h2
   exact hne ⟨h1, h2.1, h2.2.1, h2.2.2⟩
  simp only [f2]
  refine CallVD.same rfl must_die ?_
  exact .dead (ns := [r]) (by simpa using hr) (by simp [UpdAll, updH, n2])
 ·simp only [h, Bool.not_true, go_sem]
  refine CallVD.same rfl must_die ?_
  exact .dead (ns := [r]) (by simpa using hr) (by simp [UpdAll, updH, n2])
theorem getSack_kind {F : SF} {L nx : Nat} (s : List UInt8) (k fl : Int) (g gp : FuncId) (xs ys : List PV) (ks : List Int) (hk : (ks.any fun x => k == x) = false) (hks : ks.length ≤ 1000) :
  Con Tryz.prog 89 [.agg [.int .i64 k, .int .i64 fl, .str s], .fn (.func g) xs ys, .fn (.func gp) [] [], .fs 1 (ks.map eI)] F L nx nx (.tup [.agg [.int .i64 0, .int .i64 0, .nilS, .nilS], .int .i64 2]) [] [] := by
 refine bdy Tryz.f89 ?_
 intro F3 hF1 hF2
 simp only [Tryz.f89, cx, Nat.add_zero, go_sem, meths]
 refine CallVC.sameP (contains_ok ks k (by omega)) rfl ?_
 simp only [hk, go_sem]
 repeat refine sd1 ?_
 exact PostF.rs (v0 := .tup [.agg [.int .i64 0, .int .i64 0, .nilS, .nilS], .int .i64 2]) (.inr rfl)
theorem getSack_ok {F : SF} {L nx : Nat} (s : List UInt8) (hl : s.length ≤ 1000000) (k fl : Int) (g gp : FuncId) (xs ys : List PV) (ks : List Int) (hk : (ks.any fun x => k == x) = true) (hks : ks.length ≤ 1000) (l : List PV) (hlw : l.length = 4) (hnf : nfl l = true) (rds : List Nm) (hrd : ∀ n ∈ rds, n.l ≤ L)
  (hg : OfOk g xs ys s (.agg l) s.length F rds) (hp : PutOk gp l k fl s 0) : Con Tryz.prog 89 [.agg [.int .i64 k, .int .i64 fl, .str s], .fn (.func g) xs ys, .fn (.func gp) [] [], .fs 1 (ks.map eI)] F L nx nx (.tup [.agg l, .int .i64 0]) [] rds := by
 refine bdy Tryz.f89 (hrd := hrd) ?_
 intro F3 hF1 hF2
 simp only [Tryz.f89, cx, Nat.add_zero, go_sem, meths]
 refine CallVC.sameP (contains_ok ks k (by omega)) rfl ?_
 simp only [hk, go_sem]
 repeat refine sd1 ?_
 refine CallVC.same (readSack_ok s 124 [] [.ptr ⟨L + 1, 32⟩ 0 0, .ptr ⟨L + 1, 64⟩ 0 0, .ptr ⟨L + 1, 0⟩ 0 0] l hlw hnf (⟨L + 1, 32⟩ :: ⟨L + 1, 64⟩ :: ⟨L + 1, 0⟩ :: rds) (fun n hn => ?_) ?_) ?_
 ·simp only [List.mem_cons] at hn
  rcases hn with rfl | rfl | rfl | hn <;> first | exact Nat.le_refl _ | (have := hrd n hn; omega)
 ·intro F' r nx' hF' hr hFr
  have hne : ∀ (m : Nm), m.l ≤ L + 1 → m ≠ r := fun m hm e => by rw [e, hr] at hm; omega
  refine getSack1_ok r ⟨L + 1, 32⟩ ⟨L + 1, 64⟩ ⟨L + 1, 0⟩ (Nat.le_of_eq hr) (by simp) (by simp) (by simp) (hne _ (Nat.le_refl _)) (hne _ (Nat.le_refl _)) (hne _ (Nat.le_refl _)) s hl k fl _ _ _ _ _ _ _ g gp xs ys l hlw hnf rds (fun n hn => ⟨by have := hrd n hn; omega, hne n (by have := hrd n hn; omega)⟩) hFr ((hF' _ (by simp)).trans (by simp; first | exact ⟨rfl, rfl, rfl⟩ | exact ⟨rfl, rfl⟩ | rfl)) ((hF' _ (by simp)).trans (by simp; first | exact ⟨rfl, rfl, rfl⟩ | exact ⟨rfl, rfl⟩ | rfl)) ((hF' _ (by simp)).trans (by simp; first | exact ⟨rfl, rfl, rfl⟩ | exact ⟨rfl, rfl⟩ | rfl)) (hg.agree fun n hn => ?_) hp
  have e5 : ∀ k, (n = (⟨L + 1, k⟩ : Nm)) = False := nm_out (hrd n hn)
  rw [hF' n (by simp [hn])]
  simp [e5, hF1 n hn]
 simp only [hlw, hnf, go_sem]
 repeat refine sd1 ?_
 exact PostF.of (p := True) (v0 := .tup [.agg l, .int .i64 0]) (.inr rfl) (by simp only [resVal, resVals, resVal1, one, go_sem]) trivial (wk_refl _ _).1 (by rw [(wk_refl (fun _ => none) _).2]; simp) (by simp only [Tx.nf, nfl, hnf]; rfl) trivial (by simp [UpdAll, keys])
theorem getSack_bad {F : SF} {L nx : Nat} (s : List UInt8) (hl : s.length ≤ 1000000) (k fl : Int) (g gp : FuncId) (xs ys : List PV) (ks : List Int) (hk : (ks.any fun x => k == x) = true) (hks : ks.length ≤ 1000) (rds : List Nm) (hrd : ∀ n ∈ rds, n.l ≤ L)
  (hg : GetBad g gp xs ys s k fl 4 F rds) : Con Tryz.prog 89 [.agg [.int .i64 k, .int .i64 fl, .str s], .fn (.func g) xs ys, .fn (.func gp) [] [], .fs 1 (ks.map eI)] F L nx nx (.tup [.agg [.int .i64 0, .int .i64 0, .nilS, .nilS], .int .i64 5]) [] rds := by
 refine bdy Tryz.f89 (hrd := hrd) ?_
 intro F3 hF1 hF2
 simp only [Tryz.f89, cx, Nat.add_zero, go_sem, meths]
 refine CallVC.sameP (contains_ok ks k (by omega)) rfl ?_
 simp only [hk, go_sem]
 repeat refine sd1 ?_
 refine CallVC.same (readSack_die s 124 [] [.ptr ⟨L + 1, 32⟩ 0 0, .ptr ⟨L + 1, 64⟩ 0 0, .ptr ⟨L + 1, 0⟩ 0 0] (⟨L + 1, 32⟩ :: ⟨L + 1, 64⟩ :: ⟨L + 1, 0⟩ :: rds) (fun n hn => ?_) ?_) ?_
 ·simp only [List.mem_cons] at hn
  rcases hn with rfl | rfl | rfl | hn <;> first | exact Nat.le_refl _ | (have := hrd n hn; omega)
 ·intro F' r hF' hr hFr
  have hne : ∀ (m : Nm), m.l ≤ L + 1 → m ≠ r := fun m hm e => by rw [e, hr] at hm; omega
  have hag : ∀ n ∈ rds, F' n = F n := fun n hn => by
   have e5 : ∀ k, (n = (⟨L + 1, k⟩ : Nm)) = False := nm_out (hrd n hn)
   rw [hF' n (by simp [hn])]
   simp [e5, hF1 n hn]
  have hrd' : ∀ n ∈ rds, n.l ≤ L + 1 + 2 ∧ n ≠ r := fun n hn => ⟨by have := hrd n hn; omega, hne n (by have := hrd n hn; omega)⟩
  rcases hg with hg | ⟨l, p, hlw, hnf, hp, hg⟩ | ⟨l, k2, fl2, e2, b2, hlw, hnf, hg, hp, hb⟩
  ·exact getSack1_dieOf r ⟨L + 1, 32⟩ ⟨L + 1, 64⟩ ⟨L + 1, 0⟩ (Nat.le_of_eq hr) (by simp) (by simp) (by simp) (hne _ (Nat.le_refl _)) (hne _ (Nat.le_refl _)) (hne _ (Nat.le_refl _)) s hl k fl _ _ _ _ _ _ _ g gp xs ys (List.replicate 4 (.bool false)) (by simp) (by rfl) rds hrd' hFr ((hF' _ (by simp)).trans (by simp; first | exact ⟨rfl, rfl, rfl⟩ | exact ⟨rfl, rfl⟩ | rfl)) ((hF' _ (by simp)).trans (by simp; first | exact ⟨rfl, rfl, rfl⟩ | exact ⟨rfl, rfl⟩ | rfl)) ((hF' _ (by simp)).trans (by simp; first | exact ⟨rfl, rfl, rfl⟩ | exact ⟨rfl, rfl⟩ | rfl)) (hg.agree hag)
  ·exact getSack1_dieAt r ⟨L + 1, 32⟩ ⟨L + 1, 64⟩ ⟨L + 1, 0⟩ (Nat.le_of_eq hr) (by simp) (by simp) (by simp) (hne _ (Nat.le_refl _)) (hne _ (Nat.le_refl _)) (hne _ (Nat.le_refl _)) s hl k fl _ _ _ _ _ _ _ g gp xs ys l hlw hnf rds hrd' hFr ((hF' _ (by simp)).trans (by simp; first | exact ⟨rfl, rfl, rfl⟩ | exact ⟨rfl, rfl⟩ | rfl)) ((hF' _ (by simp)).trans (by simp; first | exact ⟨rfl, rfl, rfl⟩ | exact ⟨rfl, rfl⟩ | rfl)) ((hF' _ (by simp)).trans (by simp; first | exact ⟨rfl, rfl, rfl⟩ | exact ⟨rfl, rfl⟩ | rfl)) p hp (hg.agree hag)
  ·exact getSack1_dieBack r ⟨L + 1, 32⟩ ⟨L + 1, 64⟩ ⟨L + 1, 0⟩ (Nat.le_of_eq hr) (by simp) (by simp) (by simp) (hne _ (Nat.le_refl _)) (hne _ (Nat.le_refl _)) (hne _ (Nat.le_refl _)) s hl k fl _ _ _ _ _ _ _ g gp xs ys l hlw hnf rds hrd' hFr ((hF' _ (by simp)).trans (by simp; first | exact ⟨rfl, rfl, rfl⟩ | exact ⟨rfl, rfl⟩ | rfl)) ((hF' _ (by simp)).trans (by simp; first | exact ⟨rfl, rfl, rfl⟩ | exact ⟨rfl, rfl⟩ | rfl)) ((hF' _ (by simp)).trans (by simp; first | exact ⟨rfl, rfl, rfl⟩ | exact ⟨rfl, rfl⟩ | rfl)) (hg.agree hag) k2 fl2 e2 b2 hp hb
 simp only [go_sem]
 repeat refine sd1 ?_
 exact PostF.rs (v0 := .tup [.agg [.int .i64 0, .int .i64 0, .nilS, .nilS], .int .i64 5]) (.inr rfl)
theorem getForward1_ok {F : SF} {L nx : Nat} (r nof npt nc : Nm) (hr : r.l ≤ L) (hof : nof.l ≤ L) (hpt : npt.l ≤ L) (hc : nc.l ≤ L) (d1 : nof ≠ r) (d2 : npt ≠ r) (d3 : nc ≠ r) (s : List UInt8) (hl : s.length ≤ 1000000) (k fl : Int) (eo ep : TypeId) (oo op po pp oc : Bool) (g gp : FuncId) (xs ys : List PV) (l : List PV) (hlw : l.length = 2) (hnf : nfl l = true) (rds : List Nm) (hrd : ∀ n ∈ rds, n.l ≤ L ∧ n ≠ r)
  (hFr : F r = some (rdB s 0)) (hFo : F nof = some (.rows eo 1 oo po [[.fn (.func g) xs ys]])) (hFp : F npt = some (.rows ep 1 op pp [[.fn (.func gp) [] []]])) (hFc : F nc = some (.rows 34 3 oc true [[.int .i64 k, .int .i64 fl, .str s]]))
  (hg : OfOk g xs ys s (.agg l) s.length F rds) (hp : PutOk gp l k fl s 0) : Con Tryz.prog 126 [.ptr r 0 0, .ptr nof 0 0, .ptr npt 0 0, .ptr nc 0 0] F L nx nx (.agg l) [(r, .dead)] (r :: nof :: npt :: nc :: rds) := by
 refine bdy Tryz.f126 (hrd := (by intro n hn; simp at hn; rcases hn with rfl | rfl | rfl | rfl | hn <;> first | assumption | exact (hrd n hn).1)) ?_
 intro F3 hF1 hF2
 have kr : F3 r = some (rdB s 0) := (hF1 r (by simp)).trans hFr
 have ko : F3 nof = some (.rows eo 1 oo po [[.fn (.func g) xs ys]]) := (hF1 nof (by simp)).trans hFo
 have kp : F3 npt = some (.rows ep 1 op pp [[.fn (.func gp) [] []]]) := (hF1 npt (by simp)).trans hFp
 have kc : F3 nc = some (.rows 34 3 oc true [[.int .i64 k, .int .i64 fl, .str s]]) := (hF1 nc (by simp)).trans hFc
 have n1 : ∀ k, (r = (⟨L + 1, k⟩ : Nm)) = False := nm_out hr
 have n2 : ∀ k, ((⟨L + 1, k⟩ : Nm) = r) = False := nm_out' hr
 have o1 : ∀ k, (nof = (⟨L + 1, k⟩ : Nm)) = False := nm_out hof
 have o2 : ∀ k, (npt = (⟨L + 1, k⟩ : Nm)) = False := nm_out hpt
 have o3 : ∀ k, (nc = (⟨L + 1, k⟩ : Nm)) = False := nm_out hc
 have e1 : (nof = r) = False := eq_false d1
 have e2 : (npt = r) = False := eq_false d2
 have e3 : (nc = r) = False := eq_false d3
 simp only [Tryz.f126, cx, ko, o1, go_sem, meths]
 refine CallVC.same (hg _ (L + 1) r _ (fun n hn => ?_) (by omega) (fun n hn => by have := (hrd n hn).1; omega) (by simp [n1, kr])) ?_
 ·have e5 : ∀ k, (n = (⟨L + 1, k⟩ : Nm)) = False := nm_out (hrd n hn).1
  simp [e5, hF1 n (by simp [hn])]
 simp only [rdB, kr, n1, n2, hlw, hnf, Nat.add_zero, go_sem]
 repeat refine sd1 ?_
 refine CallVC.sameP must_ok rfl ?_
 simp only [kp, n2, o2, e2, go_sem]
 repeat refine sd1 ?_
 refine CallVC.sameP (hp _ _ _) rfl ?_
 simp only [kc, n2, o3, e3, go_sem]
 repeat refine sd1 ?_
 refine CallVC.sameP must_ok rfl ?_
 simp only [n2, hlw, hnf, go_sem]
 repeat refine sd1 ?_
 exact PostF.of (p := True) (v0 := .agg l) (.inr rfl) (by simp only [resVal, resVals, resVal1, one, go_sem]) trivial (wk_refl _ _).1 (by rw [(wk_refl (fun _ => none) _).2]; simp) (by simp only [Tx.nf]; exact hnf) ⟨hr, BW_dead, trivial⟩ (by simp [UpdAll, keys])
theorem getForward1_dieOf {F : SF} {L : Nat} (r nof npt nc : Nm) (hr : r.l ≤ L) (hof : nof.l ≤ L) (hpt : npt.l ≤ L) (hc : nc.l ≤ L) (d1 : nof ≠ r) (d2 : npt ≠ r) (d3 : nc ≠ r) (s : List UInt8) (hl : s.length ≤ 1000000) (k fl : Int) (eo ep : TypeId) (oo op po pp oc : Bool) (g gp : FuncId) (xs ys : List PV) (l : List PV) (hlw : l.length = 2) (hnf : nfl l = true) (rds : List Nm) (hrd : ∀ n ∈ rds, n.l ≤ L ∧ n ≠ r)
  (hFr : F r = some (rdB s 0)) (hFo : F nof = some (.rows eo 1 oo po [[.fn (.func g) xs ys]])) (hFp : F npt = some (.rows ep 1 op pp [[.fn (.func gp) [] []]])) (hFc : F nc = some (.rows 34 3 oc true [[.int .i64 k, .int .i64 fl, .str s]]))
  (hg : OfDie g xs ys s F rds) : DCon Tryz.prog chM 126 [.ptr r 0 0, .ptr nof 0 0, .ptr npt 0 0, .ptr nc 0 0] F L [(r, .dead)] (r :: nof :: npt :: nc :: rds) := by
 refine DCon.body (cxOk (L + 1)) rfl rfl (fn := Tryz.f126) (c := Tryz.f126.body.getD .skip) (by kernel_rfl) (by rfl) (by kernel_rfl) rfl  (by intro n hn; simp at hn; rcases hn with rfl | rfl | rfl | rfl | hn <;> first | assumption | exact (hrd n hn).1) ?_
 intro F3 hF1 hF2
 have kr : F3 r = some (rdB s 0) := (hF1 r (by simp)).trans hFr
 have ko : F3 nof = some (.rows eo 1 oo po [[.fn (.func g) xs ys]]) := (hF1 nof (by simp)).trans hFo
 have kp : F3 npt = some (.rows ep 1 op pp [[.fn (.func gp) [] []]]) := (hF1 npt (by simp)).trans hFp
 have kc : F3 nc = some (.rows 34 3 oc true [[.int .i64 k, .int .i64 fl, .str s]]) := (hF1 nc (by simp)).trans hFc
 have n1 : ∀ k, (r = (⟨L + 1, k⟩ : Nm)) = False := nm_out hr
 have n2 : ∀ k, ((⟨L + 1, k⟩ : Nm) = r) = False := nm_out' hr
 have o1 : ∀ k, (nof = (⟨L + 1, k⟩ : Nm)) = False := nm_out hof
 have o2 : ∀ k, (npt = (⟨L + 1, k⟩ : Nm)) = False := nm_out hpt
 have o3 : ∀ k, (nc = (⟨L + 1, k⟩ : Nm)) = False := nm_out hc
 have e1 : (nof = r) = False := eq_false d1
 have e2 : (npt = r) = False := eq_false d2
 have e3 : (nc = r) = False := eq_false d3
 simp only [Tryz.f126, cx, ko, o1, go_sem, meths]
 refine CallVD.same rfl (hg _ (L + 1) r (fun n hn => ?_) (by omega) (fun n hn => by have := (hrd n hn).1; omega) (by simp [Tx.look, n1, kr])) ?_
 ·have e5 : ∀ k, (n = (⟨L + 1, k⟩ : Nm)) = False := nm_out (hrd n hn).1
  simp [Tx.look, e5, hF1 n (by simp [hn])]
 exact .dead (ns := [r]) (by simpa using hr) (by simp [UpdAll, updH, setH, n1, n2])
theorem getForward1_dieAt {F : SF} {L : Nat} (r nof npt nc : Nm) (hr : r.l ≤ L) (hof : nof.l ≤ L) (hpt : npt.l ≤ L) (hc : nc.l ≤ L) (d1 : nof ≠ r) (d2 : npt ≠ r) (d3 : nc ≠ r) (s : List UInt8) (hl : s.length ≤ 1000000) (k fl : Int) (eo ep : TypeId) (oo op po pp oc : Bool) (g gp : FuncId) (xs ys : List PV) (l : List PV) (hlw : l.length = 2) (hnf : nfl l = true) (rds : List Nm) (hrd : ∀ n ∈ rds, n.l ≤ L ∧ n ≠ r)
  (hFr : F r = some (rdB s 0)) (hFo : F nof = some (.rows eo 1 oo po [[.fn (.func g) xs ys]])) (hFp : F npt = some (.rows ep 1 op pp [[.fn (.func gp) [] []]])) (hFc : F nc = some (.rows 34 3 oc true [[.int .i64 k, .int .i64 fl, .str s]]))
  (p : Nat) (hps : p ≠ s.length) (hg : OfOk g xs ys s (.agg l) p F rds) : DCon Tryz.prog chM 126 [.ptr r 0 0, .ptr nof 0 0, .ptr npt 0 0, .ptr nc 0 0] F L [(r, .dead)] (r :: nof :: npt :: nc :: rds) := by
 refine DCon.body (cxOk (L + 1)) rfl rfl (fn := Tryz.f126) (c := Tryz.f126.body.getD .skip) (by kernel_rfl) (by rfl) (by kernel_rfl) rfl  (by intro n hn; simp at hn; rcases hn with rfl | rfl | rfl | rfl | hn <;> first | assumption | exact (hrd n hn).1) ?_
 intro F3 hF1 hF2
 have kr : F3 r = some (rdB s 0) := (hF1 r (by simp)).trans hFr
 have ko : F3 nof = some (.rows eo 1 oo po [[.fn (.func g) xs ys]]) := (hF1 nof (by simp)).trans hFo
 have kp : F3 npt = some (.rows ep 1 op pp [[.fn (.func gp) [] []]]) := (hF1 npt (by simp)).trans hFp
 have kc : F3 nc = some (.rows 34 3 oc true [[.int .i64 k, .int .i64 fl, .str s]]) := (hF1 nc (by simp)).trans hFc
 have n1 : ∀ k, (r = (⟨L + 1, k⟩ : Nm)) = False := nm_out hr
 have n2 : ∀ k, ((⟨L + 1, k⟩ : Nm) = r) = False := nm_out' hr
 have o1 : ∀ k, (nof = (⟨L + 1, k⟩ : Nm)) = False := nm_out hof
 have o2 : ∀ k, (npt = (⟨L + 1, k⟩ : Nm)) = False := nm_out hpt
 have o3 : ∀ k, (nc = (⟨L + 1, k⟩ : Nm)) = False := nm_out hc
 have e1 : (nof = r) = False := eq_false d1
 have e2 : (npt = r) = False := eq_false d2
 have e3 : (nc = r) = False := eq_false d3
 simp only [Tryz.f126, cx, ko, o1, go_sem, meths]
 refine CallVD.live (CallVC.same (hg _ (L + 1) r _ (fun n hn => ?_) (by omega) (fun n hn => by have := (hrd n hn).1; omega) (by simp [n1, kr])) ?_)
 ·have e5 : ∀ k, (n = (⟨L + 1, k⟩ : Nm)) = False := nm_out (hrd n hn).1
  simp [e5, hF1 n (by simp [hn])]
 simp only [rdB, kr, n1, n2, hlw, hnf, Nat.add_zero, go_sem]
 have f1 : ((p : Int) == (s.length : Int)) = false := eqF (by omega)
 repeat refine sd1 ?_
 refine RegVD.dieAt 12 [] rfl (by simp) rfl (by kernel_rfl) ?_
 simp only [f1, rdB, kr, n1, Nat.add_zero, go_sem]
 refine dieX.same must_die ?_
 simp only [go_sem]
 repeat refine sd1 ?_
 exact fun nz => PostD.all (ns := [r]) rfl (by simpa using hr) (by simp [UpdAll, n2]) (by simp [keys])
theorem getForward1_dieBack {F : SF} {L : Nat} (r nof npt nc : Nm) (hr : r.l ≤ L) (hof : nof.l ≤ L) (hpt : npt.l ≤ L) (hc : nc.l ≤ L) (d1 : nof ≠ r) (d2 : npt ≠ r) (d3 : nc ≠ r) (s : List UInt8) (hl : s.length ≤ 1000000) (k fl : Int) (eo ep : TypeId) (oo op po pp oc : Bool) (g gp : FuncId) (xs ys : List PV) (l : List PV) (hlw : l.length = 2) (hnf : nfl l = true) (rds : List Nm) (hrd : ∀ n ∈ rds, n.l ≤ L ∧ n ≠ r)
  (hFr : F r = some (rdB s 0)) (hFo : F nof = some (.rows eo 1 oo po [[.fn (.func g) xs ys]])) (hFp : F npt = some (.rows ep 1 op pp [[.fn (.func gp) [] []]])) (hFc : F nc = some (.rows 34 3 oc true [[.int .i64 k, .int .i64 fl, .str s]]))
  (hg : OfOk g xs ys s (.agg l) s.length F rds) (k2 fl2 e2 : Int) (b2 : List UInt8) (hp : PutOk gp l k2 fl2 b2 e2) (hne : ¬(e2 = 0 ∧ k2 = k ∧ fl2 = fl ∧ b2 = s)) : DCon Tryz.prog chM 126 [.ptr r 0 0, .ptr nof 0 0, .ptr npt 0 0, .ptr nc 0 0] F L [(r, .dead)] (r :: nof :: npt :: nc :: rds) := by
 refine DCon.body (cxOk (L + 1)) rfl rfl (fn := Tryz.f126) (c := Tryz.f126.body.getD .skip) (by kernel_rfl) (by rfl) (by kernel_rfl) rfl  (by intro n hn; simp at hn; rcases hn with rfl | rfl | rfl | rfl | hn <;> first | assumption | exact (hrd n hn).1) ?_
 intro F3 hF1 hF2
 have kr : F3 r = some (rdB s 0) := (hF1 r (by simp)).trans hFr
 have ko : F3 nof = some (.rows eo 1 oo po [[.fn (.func g) xs ys]]) := (hF1 nof (by simp)).trans hFo
 have kp : F3 npt = some (.rows ep 1 op pp [[.fn (.func gp) [] []]]) := (hF1 npt (by simp)).trans hFp
 have kc : F3 nc = some (.rows 34 3 oc true [[.int .i64 k, .int .i64 fl, .str s]]) := (hF1 nc (by simp)).trans hFc
 have n1 : ∀ k, (r = (⟨L + 1, k⟩ : Nm)) = False := nm_out hr
 have n2 : ∀ k, ((⟨L + 1, k⟩ : Nm) = r) = False := nm_out' hr
 have o1 : ∀ k, (nof = (⟨L + 1, k⟩ : Nm)) = False := nm_out hof
 have o2 : ∀ k, (npt = (⟨L + 1, k⟩ : Nm)) = False := nm_out hpt
 have o3 : ∀ k, (nc = (⟨L + 1, k⟩ : Nm)) = False := nm_out hc
 have e1 : (nof = r) = False := eq_false d1
 have e2' : (npt = r) = False := eq_false d2
 have e3 : (nc = r) = False := eq_false d3
 simp only [Tryz.f126, cx, ko, o1, go_sem, meths]
 refine CallVD.live (CallVC.same (hg _ (L + 1) r _ (fun n hn => ?_) (by omega) (fun n hn => by have := (hrd n hn).1; omega) (by simp [n1, kr])) ?_)
 ·have e5 : ∀ k, (n = (⟨L + 1, k⟩ : Nm)) = False := nm_out (hrd n hn).1
  simp [e5, hF1 n (by simp [hn])]
 simp only [rdB, kr, n1, n2, hlw, hnf, Nat.add_zero, go_sem]
 repeat refine sd1 ?_
 refine RegVD.live ?_
 repeat refine sd1 ?_
 refine CallVC.sameP must_ok rfl ?_
 simp only [kp, n2, o2, e2', go_sem]
 repeat refine sd1 ?_
 refine CallVD.live (CallVC.sameP (hp _ _ _) rfl ?_)
 simp only [kc, n2, o3, e3, go_sem]
 repeat refine sd1 ?_
 refine brB.mk (fun h => ?_) (fun h => ?_)
 ·have h1 : e2 = 0 := by simpa using h
  have f2 : (k2 == k && (fl2 == fl && b2 == s)) = false := by
   rw [Bool.eq_false_iff]
   intro h2
   simp only [Bool.and_eq_true, beq_iff_eq] at h2
   exact hne ⟨h1, h2.1, h2.2.1, h2.2.2⟩
  simp only [f2]
  refine CallVD.same rfl must_die ?_
  exact .dead (ns := [r]) (by simpa using hr) (by simp [UpdAll, updH, n2])
 ·simp only [h, Bool.not_true, go_sem]
  refine CallVD.same rfl must_die ?_
  exact .dead (ns := [r]) (by simpa using hr) (by simp [UpdAll, updH, n2])
theorem getForward_kind {F : SF} {L nx : Nat} (s : List UInt8) (k fl : Int) (g gp : FuncId) (xs ys : List PV) (ks : List Int) (hk : (ks.any fun x => k == x) = false) (hks : ks.length ≤ 1000) :
  Con Tryz.prog 93 [.agg [.int .i64 k, .int .i64 fl, .str s], .fn (.func g) xs ys, .fn (.func gp) [] [], .fs 1 (ks.map eI)] F L nx nx (.tup [.agg [.int .i64 0, .nilS], .int .i64 2]) [] [] := by
 refine bdy Tryz.f93 ?_
 intro F3 hF1 hF2
 simp only [Tryz.f93, cx, Nat.add_zero, go_sem, meths]
 refine CallVC.sameP (contains_ok ks k (by omega)) rfl ?_
 simp only [hk, go_sem]
 repeat refine sd1 ?_
 exact PostF.rs (v0 := .tup [.agg [.int .i64 0, .nilS], .int .i64 2]) (.inr rfl)
theorem getForward_ok {F : SF} {L nx : Nat} (s : List UInt8) (hl : s.length ≤ 1000000) (k fl : Int) (g gp : FuncId) (xs ys : List PV) (ks : List Int) (hk : (ks.any fun x => k == x) = true) (hks : ks.length ≤ 1000) (l : List PV) (hlw : l.length = 2) (hnf : nfl l = true) (rds : List Nm) (hrd : ∀ n ∈ rds, n.l ≤ L)
  (hg : OfOk g xs ys s (.agg l) s.length F rds) (hp : PutOk gp l k fl s 0) : Con Tryz.prog 93 [.agg [.int .i64 k, .int .i64 fl, .str s], .fn (.func g) xs ys, .fn (.func gp) [] [], .fs 1 (ks.map eI)] F L nx nx (.tup [.agg l, .int .i64 0]) [] rds := by
 refine bdy Tryz.f93 (hrd := hrd) ?_
 intro F3 hF1 hF2
 simp only [Tryz.f93, cx, Nat.add_zero, go_sem, meths]
 refine CallVC.sameP (contains_ok ks k (by omega)) rfl ?_
 simp only [hk, go_sem]
 repeat refine sd1 ?_
 refine CallVC.same (readForward_ok s 126 [] [.ptr ⟨L + 1, 32⟩ 0 0, .ptr ⟨L + 1, 64⟩ 0 0, .ptr ⟨L + 1, 0⟩ 0 0] l hlw hnf (⟨L + 1, 32⟩ :: ⟨L + 1, 64⟩ :: ⟨L + 1, 0⟩ :: rds) (fun n hn => ?_) ?_) ?_
 ·simp only [List.mem_cons] at hn
  rcases hn with rfl | rfl | rfl | hn <;> first | exact Nat.le_refl _ | (have := hrd n hn; omega)
 ·intro F' r nx' hF' hr hFr
  have hne : ∀ (m : Nm), m.l ≤ L + 1 → m ≠ r := fun m hm e => by rw [e, hr] at hm; omega
  refine getForward1_ok r ⟨L + 1, 32⟩ ⟨L + 1, 64⟩ ⟨L + 1, 0⟩ (Nat.le_of_eq hr) (by simp) (by simp) (by simp) (hne _ (Nat.le_refl _)) (hne _ (Nat.le_refl _)) (hne _ (Nat.le_refl _)) s hl k fl _ _ _ _ _ _ _ g gp xs ys l hlw hnf rds (fun n hn => ⟨by have := hrd n hn; omega, hne n (by have := hrd n hn; omega)⟩) hFr ((hF' _ (by simp)).trans (by simp; first | exact ⟨rfl, rfl, rfl⟩ | exact ⟨rfl, rfl⟩ | rfl)) ((hF' _ (by simp)).trans (by simp; first | exact ⟨rfl, rfl, rfl⟩ | exact ⟨rfl, rfl⟩ | rfl)) ((hF' _ (by simp)).trans (by simp; first | exact ⟨rfl, rfl, rfl⟩ | exact ⟨rfl, rfl⟩ | rfl)) (hg.agree fun n hn => ?_) hp
  have e5 : ∀ k, (n = (⟨L + 1, k⟩ : Nm)) = False := nm_out (hrd n hn)
  rw [hF' n (by simp [hn])]
  simp [e5, hF1 n hn]
 simp only [hlw, hnf, go_sem]
 repeat refine sd1 ?_
 exact PostF.of (p := True) (v0 := .tup [.agg l, .int .i64 0]) (.inr rfl) (by simp only [resVal, resVals, resVal1, one, go_sem]) trivial (wk_refl _ _).1 (by rw [(wk_refl (fun _ => none) _).2]; simp) (by simp only [Tx.nf, nfl, hnf]; rfl) trivial (by simp [UpdAll, keys])
theorem getForward_bad {F : SF} {L nx : Nat} (s : List UInt8) (hl : s.length ≤ 1000000) (k fl : Int) (g gp : FuncId) (xs ys : List PV) (ks : List Int) (hk : (ks.any fun x => k == x) = true) (hks : ks.length ≤ 1000) (rds : List Nm) (hrd : ∀ n ∈ rds, n.l ≤ L)
  (hg : GetBad g gp xs ys s k fl 2 F rds) : Con Tryz.prog 93 [.agg [.int .i64 k, .int .i64 fl, .str s], .fn (.func g) xs ys, .fn (.func gp) [] [], .fs 1 (ks.map eI)] F L nx nx (.tup [.agg [.int .i64 0, .nilS], .int .i64 5]) [] rds := by
 refine bdy Tryz.f93 (hrd := hrd) ?_
 intro F3 hF1 hF2
 simp only [Tryz.f93, cx, Nat.add_zero, go_sem, meths]
 refine CallVC.sameP (contains_ok ks k (by omega)) rfl ?_
 simp only [hk, go_sem]
 repeat refine sd1 ?_
 refine CallVC.same (readForward_die s 126 [] [.ptr ⟨L + 1, 32⟩ 0 0, .ptr ⟨L + 1, 64⟩ 0 0, .ptr ⟨L + 1, 0⟩ 0 0] (⟨L + 1, 32⟩ :: ⟨L + 1, 64⟩ :: ⟨L + 1, 0⟩ :: rds) (fun n hn => ?_) ?_) ?_
 ·simp only [List.mem_cons] at hn
  rcases hn with rfl | rfl | rfl | hn <;> first | exact Nat.le_refl _ | (have := hrd n hn; omega)
 ·intro F' r hF' hr hFr
  have hne : ∀ (m : Nm), m.l ≤ L + 1 → m ≠ r := fun m hm e => by rw [e, hr] at hm; omega
  have hag : ∀ n ∈ rds, F' n = F n := fun n hn => by
   have e5 : ∀ k, (n = (⟨L + 1, k⟩ : Nm)) = False := nm_out (hrd n hn)
   rw [hF' n (by simp [hn])]
   simp [e5, hF1 n hn]
  have hrd' : ∀ n ∈ rds, n.l ≤ L + 1 + 2 ∧ n ≠ r := fun n hn => ⟨by have := hrd n hn; omega, hne n (by have := hrd n hn; omega)⟩
  rcases hg with hg | ⟨l, p, hlw, hnf, hp, hg⟩ | ⟨l, k2, fl2, e2, b2, hlw, hnf, hg, hp, hb⟩
  ·exact getForward1_dieOf r ⟨L + 1, 32⟩ ⟨L + 1, 64⟩ ⟨L + 1, 0⟩ (Nat.le_of_eq hr) (by simp) (by simp) (by simp) (hne _ (Nat.le_refl _)) (hne _ (Nat.le_refl _)) (hne _ (Nat.le_refl _)) s hl k fl _ _ _ _ _ _ _ g gp xs ys (List.replicate 2 (.bool false)) (by simp) (by rfl) rds hrd' hFr ((hF' _ (by simp)).trans (by simp; first | exact ⟨rfl, rfl, rfl⟩ | exact ⟨rfl, rfl⟩ | rfl)) ((hF' _ (by simp)).trans (by simp; first | exact ⟨rfl, rfl, rfl⟩ | exact ⟨rfl, rfl⟩ | rfl)) ((hF' _ (by simp)).trans (by simp; first | exact ⟨rfl, rfl, rfl⟩ | exact ⟨rfl, rfl⟩ | rfl)) (hg.agree hag)
  ·exact getForward1_dieAt r ⟨L + 1, 32⟩ ⟨L + 1, 64⟩ ⟨L + 1, 0⟩ (Nat.le_of_eq hr) (by simp) (by simp) (by simp) (hne _ (Nat.le_refl _)) (hne _ (Nat.le_refl _)) (hne _ (Nat.le_refl _)) s hl k fl _ _ _ _ _ _ _ g gp xs ys l hlw hnf rds hrd' hFr ((hF' _ (by simp)).trans (by simp; first | exact ⟨rfl, rfl, rfl⟩ | exact ⟨rfl, rfl⟩ | rfl)) ((hF' _ (by simp)).trans (by simp; first | exact ⟨rfl, rfl, rfl⟩ | exact ⟨rfl, rfl⟩ | rfl)) ((hF' _ (by simp)).trans (by simp; first | exact ⟨rfl, rfl, rfl⟩ | exact ⟨rfl, rfl⟩ | rfl)) p hp (hg.agree hag)
  ·exact getForward1_dieBack r ⟨L + 1, 32⟩ ⟨L + 1, 64⟩ ⟨L + 1, 0⟩ (Nat.le_of_eq hr) (by simp) (by simp) (by simp) (hne _ (Nat.le_refl _)) (hne _ (Nat.le_refl _)) (hne _ (Nat.le_refl _)) s hl k fl _ _ _ _ _ _ _ g gp xs ys l hlw hnf rds hrd' hFr ((hF' _ (by simp)).trans (by simp; first | exact ⟨rfl, rfl, rfl⟩ | exact ⟨rfl, rfl⟩ | rfl)) ((hF' _ (by simp)).trans (by simp; first | exact ⟨rfl, rfl, rfl⟩ | exact ⟨rfl, rfl⟩ | rfl)) ((hF' _ (by simp)).trans (by simp; first | exact ⟨rfl, rfl, rfl⟩ | exact ⟨rfl, rfl⟩ | rfl)) (hg.agree hag) k2 fl2 e2 b2 hp hb
 simp only [go_sem]
 repeat refine sd1 ?_
 exact PostF.rs (v0 := .tup [.agg [.int .i64 0, .nilS], .int .i64 5]) (.inr rfl)
theorem getReset1_ok {F : SF} {L nx : Nat} (r nof npt nc : Nm) (hr : r.l ≤ L) (hof : nof.l ≤ L) (hpt : npt.l ≤ L) (hc : nc.l ≤ L) (d1 : nof ≠ r) (d2 : npt ≠ r) (d3 : nc ≠ r) (s : List UInt8) (hl : s.length ≤ 1000000) (k fl : Int) (eo ep : TypeId) (oo op po pp oc : Bool) (g gp : FuncId) (xs ys : List PV) (l : List PV) (hlw : l.length = 5) (hnf : nfl l = true) (rds : List Nm) (hrd : ∀ n ∈ rds, n.l ≤ L ∧ n ≠ r)
  (hFr : F r = some (rdB s 0)) (hFo : F nof = some (.rows eo 1 oo po [[.fn (.func g) xs ys]])) (hFp : F npt = some (.rows ep 1 op pp [[.fn (.func gp) [] []]])) (hFc : F nc = some (.rows 34 3 oc true [[.int .i64 k, .int .i64 fl, .str s]]))
  (hg : OfOk g xs ys s (.agg l) s.length F rds) (hp : PutOk gp l k fl s 0) : Con Tryz.prog 128 [.ptr r 0 0, .ptr nof 0 0, .ptr npt 0 0, .ptr nc 0 0] F L nx nx (.agg l) [(r, .dead)] (r :: nof :: npt :: nc :: rds) := by
 refine bdy Tryz.f128 (hrd := (by intro n hn; simp at hn; rcases hn with rfl | rfl | rfl | rfl | hn <;> first | assumption | exact (hrd n hn).1)) ?_
 intro F3 hF1 hF2
 have kr : F3 r = some (rdB s 0) := (hF1 r (by simp)).trans hFr
 have ko : F3 nof = some (.rows eo 1 oo po [[.fn (.func g) xs ys]]) := (hF1 nof (by simp)).trans hFo
 have kp : F3 npt = some (.rows ep 1 op pp [[.fn (.func gp) [] []]]) := (hF1 npt (by simp)).trans hFp
 have kc : F3 nc = some (.rows 34 3 oc true [[.int .i64 k, .int .i64 fl, .str s]]) := (hF1 nc (by simp)).trans hFc
 have n1 : ∀ k, (r = (⟨L + 1, k⟩ : Nm)) = False := nm_out hr
 have n2 : ∀ k, ((⟨L + 1, k⟩ : Nm) = r) = False := nm_out' hr
 have o1 : ∀ k, (nof = (⟨L + 1, k⟩ : Nm)) = False := nm_out hof
 have o2 : ∀ k, (npt = (⟨L + 1, k⟩ : Nm)) = False := nm_out hpt
 have o3 : ∀ k, (nc = (⟨L + 1, k⟩ : Nm)) = False := nm_out hc
 have e1 : (nof = r) = False := eq_false d1
 have e2 : (npt = r) = False := eq_false d2
 have e3 : (nc = r) = False := eq_false d3
 simp only [Tryz.f128, cx, ko, o1, go_sem, meths]
 refine CallVC.same (hg _ (L + 1) r _ (fun n hn => ?_) (by omega) (fun n hn => by have := (hrd n hn).1; omega) (by simp [n1, kr])) ?_
 ·have e5 : ∀ k, (n = (⟨L + 1, k⟩ : Nm)) = False := nm_out (hrd n hn).1
  simp [e5, hF1 n (by simp [hn])]
 simp only [rdB, kr, n1, n2, hlw, hnf, Nat.add_zero, go_sem]
 repeat refine sd1 ?_
 refine CallVC.sameP must_ok rfl ?_
 simp only [kp, n2, o2, e2, go_sem]
 repeat refine sd1 ?_
 refine CallVC.sameP (hp _ _ _) rfl ?_
 simp only [kc, n2, o3, e3, go_sem]
 repeat refine sd1 ?_
 refine CallVC.sameP must_ok rfl ?_
 simp only [n2, hlw, hnf, go_sem]
 repeat refine sd1 ?_
 exact PostF.of (p := True) (v0 := .agg l) (.inr rfl) (by simp only [resVal, resVals, resVal1, one, go_sem]) trivial (wk_refl _ _).1 (by rw [(wk_refl (fun _ => none) _).2]; simp) (by simp only [Tx.nf]; exact hnf) ⟨hr, BW_dead, trivial⟩ (by simp [UpdAll, keys])
theorem getReset1_dieOf {F : SF} {L : Nat} (r nof npt nc : Nm) (hr : r.l ≤ L) (hof : nof.l ≤ L) (hpt : npt.l ≤ L) (hc : nc.l ≤ L) (d1 : nof ≠ r) (d2 : npt ≠ r) (d3 : nc ≠ r) (s : List UInt8) (hl : s.length ≤ 1000000) (k fl : Int) (eo ep : TypeId) (oo op po pp oc : Bool) (g gp : FuncId) (xs ys : List PV) (l : List PV) (hlw : l.length = 5) (hnf : nfl l = true) (rds : List Nm) (hrd : ∀ n ∈ rds, n.l ≤ L ∧ n ≠ r)
  (hFr : F r = some (rdB s 0)) (hFo : F nof = some (.rows eo 1 oo po [[.fn (.func g) xs ys]])) (hFp : F npt = some (.rows ep 1 op pp [[.fn (.func gp) [] []]])) (hFc : F nc = some (.rows 34 3 oc true [[.int .i64 k, .int .i64 fl, .str s]]))
  (hg : OfDie g xs ys s F rds) : DCon Tryz.prog chM 128 [.ptr r 0 0, .ptr nof 0 0, .ptr npt 0 0, .ptr nc 0 0] F L [(r, .dead)] (r :: nof :: npt :: nc :: rds) := by
 refine DCon.body (cxOk (L + 1)) rfl rfl (fn := Tryz.f128) (c := Tryz.f128.body.getD .skip) (by kernel_rfl) (by rfl) (by kernel_rfl) rfl  (by intro n hn; simp at hn; rcases hn with rfl | rfl | rfl | rfl | hn <;> first | assumption | exact (hrd n hn).1) ?_
 intro F3 hF1 hF2
 have kr : F3 r = some (rdB s 0) := (hF1 r (by simp)).trans hFr
 have ko : F3 nof = some (.rows eo 1 oo po [[.fn (.func g) xs ys]]) := (hF1 nof (by simp)).trans hFo
 have kp : F3 npt = some (.rows ep 1 op pp [[.fn (.func gp) [] []]]) := (hF1 npt (by simp)).trans hFp
 have kc : F3 nc = some (.rows 34 3 oc true [[.int .i64 k, .int .i64 fl, .str s]]) := (hF1 nc (by simp)).trans hFc
 have n1 : ∀ k, (r = (⟨L + 1, k⟩ : Nm)) = False := nm_out hr
 have n2 : ∀ k, ((⟨L + 1, k⟩ : Nm) = r) = False := nm_out' hr
 have o1 : ∀ k, (nof = (⟨L + 1, k⟩ : Nm)) = False := nm_out hof
 have o2 : ∀ k, (npt = (⟨L + 1, k⟩ : Nm)) = False := nm_out hpt
 have o3 : ∀ k, (nc = (⟨L + 1, k⟩ : Nm)) = False := nm_out hc
 have e1 : (nof = r) = False := eq_false d1
 have e2 : (npt = r) = False := eq_false d2
 have e3 : (nc = r) = False := eq_false d3
 simp only [Tryz.f128, cx, ko, o1, go_sem, meths]
 refine CallVD.same rfl (hg _ (L + 1) r (fun n hn => ?_) (by omega) (fun n hn => by have := (hrd n hn).1; omega) (by simp [Tx.look, n1, kr])) ?_
 ·have e5 : ∀ k, (n = (⟨L + 1, k⟩ : Nm)) = False := nm_out (hrd n hn).1
  simp [Tx.look, e5, hF1 n (by simp [hn])]
 exact .dead (ns := [r]) (by simpa using hr) (by simp [UpdAll, updH, setH, n1, n2])
theorem getReset1_dieAt {F : SF} {L : Nat} (r nof npt nc : Nm) (hr : r.l ≤ L) (hof : nof.l ≤ L) (hpt : npt.l ≤ L) (hc : nc.l ≤ L) (d1 : nof ≠ r) (d2 : npt ≠ r) (d3 : nc ≠ r) (s : List UInt8) (hl : s.length ≤ 1000000) (k fl : Int) (eo ep : TypeId) (oo op po pp oc : Bool) (g gp : FuncId) (xs ys : List PV) (l : List PV) (hlw : l.length = 5) (hnf : nfl l = true) (rds : List Nm) (hrd : ∀ n ∈ rds, n.l ≤ L ∧ n ≠ r)
  (hFr : F r = some (rdB s 0)) (hFo : F nof = some (.rows eo 1 oo po [[.fn (.func g) xs ys]])) (hFp : F npt = some (.rows ep 1 op pp [[.fn (.func gp) [] []]])) (hFc : F nc = some (.rows 34 3 oc true [[.int .i64 k, .int .i64 fl, .str s]]))
  (p : Nat) (hps : p ≠ s.length) (hg : OfOk g xs ys s (.agg l) p F rds) : DCon Tryz.prog chM 128 [.ptr r 0 0, .ptr nof 0 0, .ptr npt 0 0, .ptr nc 0 0] F L [(r, .dead)] (r :: nof :: npt :: nc :: rds) := by
 refine DCon.body (cxOk (L + 1)) rfl rfl (fn := Tryz.f128) (c := Tryz.f128.body.getD .skip) (by kernel_rfl) (by rfl) (by kernel_rfl) rfl  (by intro n hn; simp at hn; rcases hn with rfl | rfl | rfl | rfl | hn <;> first | assumption | exact (hrd n hn).1) ?_
 intro F3 hF1 hF2
 have kr : F3 r = some (rdB s 0) := (hF1 r (by simp)).trans hFr
 have ko : F3 nof = some (.rows eo 1 oo po [[.fn (.func g) xs ys]]) := (hF1 nof (by simp)).trans hFo
 have kp : F3 npt = some (.rows ep 1 op pp [[.fn (.func gp) [] []]]) := (hF1 npt (by simp)).trans hFp
 have kc : F3 nc = some (.rows 34 3 oc true [[.int .i64 k, .int .i64 fl, .str s]]) := (hF1 nc (by simp)).trans hFc
 have n1 : ∀ k, (r = (⟨L + 1, k⟩ : Nm)) = False := nm_out hr
 have n2 : ∀ k, ((⟨L + 1, k⟩ : Nm) = r) = False := nm_out' hr
 have o1 : ∀ k, (nof = (⟨L + 1, k⟩ : Nm)) = False := nm_out hof
 have o2 : ∀ k, (npt = (⟨L + 1, k⟩ : Nm)) = False := nm_out hpt
 have o3 : ∀ k, (nc = (⟨L + 1, k⟩ : Nm)) = False := nm_out hc
 have e1 : (nof = r) = False := eq_false d1
 have e2 : (npt = r) = False := eq_false d2
 have e3 : (nc = r) = False := eq_false d3
 simp only [Tryz.f128, cx, ko, o1, go_sem, meths]
 refine CallVD.live (CallVC.same (hg _ (L + 1) r _ (fun n hn => ?_) (by omega) (fun n hn => by have := (hrd n hn).1; omega) (by simp [n1, kr])) ?_)
 ·have e5 : ∀ k, (n = (⟨L + 1, k⟩ : Nm)) = False := nm_out (hrd n hn).1
  simp [e5, hF1 n (by simp [hn])]
 simp only [rdB, kr, n1, n2, hlw, hnf, Nat.add_zero, go_sem]
 have f1 : ((p : Int) == (s.length : Int)) = false := eqF (by omega)
 repeat refine sd1 ?_
 refine RegVD.dieAt 12 [] rfl (by simp) rfl (by kernel_rfl) ?_
 simp only [f1, rdB, kr, n1, Nat.add_zero, go_sem]
 refine dieX.same must_die ?_
 simp only [go_sem]
 repeat refine sd1 ?_
 exact fun nz => PostD.all (ns := [r]) rfl (by simpa using hr) (by simp [UpdAll, n2]) (by simp [keys])
theorem getReset1_dieBack {F : SF} {L : Nat} (r nof npt nc : Nm) (hr : r.l ≤ L) (hof : nof.l ≤ L) (hpt : npt.l ≤ L) (hc : nc.l ≤ L) (d1 : nof ≠ r) (d2 : npt ≠ r) (d3 : nc ≠ r) (s : List UInt8) (hl : s.length ≤ 1000000) (k fl : Int) (eo ep : TypeId) (oo op po pp oc : Bool) (g gp : FuncId) (xs ys : List PV) (l : List PV) (hlw : l.length = 5) (hnf : nfl l = true) (rds : List Nm) (hrd : ∀ n ∈ rds, n.l ≤ L ∧ n ≠ r)
  (hFr : F r = some (rdB s 0)) (hFo : F nof = some (.rows eo 1 oo po [[.fn (.func g) xs ys]])) (hFp : F npt = some (.rows ep 1 op pp [[.fn (.func gp) [] []]])) (hFc : F nc = some (.rows 34 3 oc true [[.int .i64 k, .int .i64 fl, .str s]]))
  (hg : OfOk g xs ys s (.agg l) s.length F rds) (k2 fl2 e2 : Int) (b2 : List UInt8) (hp : PutOk gp l k2 fl2 b2 e2) (hne : ¬(e2 = 0 ∧ k2 = k ∧ fl2 = fl ∧ b2 = s)) : DCon Tryz.prog chM 128 [.ptr r 0 0, .ptr nof 0 0, .ptr npt 0 0, .ptr nc 0 0] F L [(r, .dead)] (r :: nof :: npt :: nc :: rds) := by
 refine DCon.body (cxOk (L + 1)) rfl rfl (fn := Tryz.f128) (c := Tryz.f128.body.getD .skip) (by kernel_rfl) (by rfl) (by kernel_rfl) rfl  (by intro n hn; simp at hn; rcases hn with rfl | rfl | rfl | rfl | hn <;> first | assumption | exact (hrd n hn).1) ?_
 intro F3 hF1 hF2
 have kr : F3 r = some (rdB s 0) := (hF1 r (by simp)).trans hFr
 have ko : F3 nof = some (.rows eo 1 oo po [[.fn (.func g) xs ys]]) := (hF1 nof (by simp)).trans hFo
 have kp : F3 npt = some (.rows ep 1 op pp [[.fn (.func gp) [] []]]) := (hF1 npt (by simp)).trans hFp
 have kc : F3 nc = some (.rows 34 3 oc true [[.int .i64 k, .int .i64 fl, .str s]]) := (hF1 nc (by simp)).trans hFc
 have n1 : ∀ k, (r = (⟨L + 1, k⟩ : Nm)) = False := nm_out hr
 have n2 : ∀ k, ((⟨L + 1, k⟩ : Nm) = r) = False := nm_out' hr
 have o1 : ∀ k, (nof = (⟨L + 1, k⟩ : Nm)) = False := nm_out hof
 have o2 : ∀ k, (npt = (⟨L + 1, k⟩ : Nm)) = False := nm_out hpt
 have o3 : ∀ k, (nc = (⟨L + 1, k⟩ : Nm)) = False := nm_out hc
 have e1 : (nof = r) = False := eq_false d1
 have e2' : (npt = r) = False := eq_false d2
 have e3 : (nc = r) = False := eq_false d3
 simp only [Tryz.f128, cx, ko, o1, go_sem, meths]
 refine CallVD.live (CallVC.same (hg _ (L + 1) r _ (fun n hn => ?_) (by omega) (fun n hn => by have := (hrd n hn).1; omega) (by simp [n1, kr])) ?_)
 ·have e5 : ∀ k, (n = (⟨L + 1, k⟩ : Nm)) = False := nm_out (hrd n hn).1
  simp [e5, hF1 n (by simp [hn])]
 simp only [rdB, kr, n1, n2, hlw, hnf, Nat.add_zero, go_sem]
 repeat refine sd1 ?_
 refine RegVD.live ?_
 repeat refine sd1 ?_
 refine CallVC.sameP must_ok rfl ?_
 simp only [kp, n2, o2, e2', go_sem]
 repeat refine sd1 ?_
 refine CallVD.live (CallVC.sameP (hp _ _ _) rfl ?_)
 simp only [kc, n2, o3, e3, go_sem]
 repeat refine sd1 ?_
 refine brB.mk (fun h => ?_) (fun h => ?_)
 ·have h1 : e2 = 0 := by simpa using h
  have f2 : (k2 == k && (fl2 == fl && b2 == s)) = false := by
   rw [Bool.eq_false_iff]
   intro h2
   simp only [Bool.and_eq_true, beq_iff_eq] at h2
   exact hne ⟨h1, h2.1, h2.2.1, h2.2.2⟩
  simp only [f2]
  refine CallVD.same rfl must_die ?_
  exact .dead (ns := [r]) (by simpa using hr) (by simp [UpdAll, updH, n2])
 ·simp only [h, Bool.not_true, go_sem]
  refine CallVD.same rfl must_die ?_
  exact .dead (ns := [r]) (by simpa using hr) (by simp [UpdAll, updH, n2])
theorem getReset_kind {F : SF} {L nx : Nat} (s : List UInt8) (k fl : Int) (g gp : FuncId) (xs ys : List PV) (ks : List Int) (hk : (ks.any fun x => k == x) = false) (hks : ks.length ≤ 1000) :
  Con Tryz.prog 96 [.agg [.int .i64 k, .int .i64 fl, .str s], .fn (.func g) xs ys, .fn (.func gp) [] [], .fs 1 (ks.map eI)] F L nx nx (.tup [.agg [.int .i64 0, .int .i64 0, .int .i64 0, .int .i64 0, .nilS], .int .i64 2]) [] [] := by
 refine bdy Tryz.f96 ?_
 intro F3 hF1 hF2
 simp only [Tryz.f96, cx, Nat.add_zero, go_sem, meths]
 refine CallVC.sameP (contains_ok ks k (by omega)) rfl ?_
 simp only [hk, go_sem]
 repeat refine sd1 ?_
 exact PostF.rs (v0 := .tup [.agg [.int .i64 0, .int .i64 0, .int .i64 0, .int .i64 0, .nilS], .int .i64 2]) (.inr rfl)
theorem getReset_ok {F : SF} {L nx : Nat} (s : List UInt8) (hl : s.length ≤ 1000000) (k fl : Int) (g gp : FuncId) (xs ys : List PV) (ks : List Int) (hk : (ks.any fun x => k == x) = true) (hks : ks.length ≤ 1000) (l : List PV) (hlw : l.length = 5) (hnf : nfl l = true) (rds : List Nm) (hrd : ∀ n ∈ rds, n.l ≤ L)
  (hg : OfOk g xs ys s (.agg l) s.length F rds) (hp : PutOk gp l k fl s 0) : Con Tryz.prog 96 [.agg [.int .i64 k, .int .i64 fl, .str s], .fn (.func g) xs ys, .fn (.func gp) [] [], .fs 1 (ks.map eI)] F L nx nx (.tup [.agg l, .int .i64 0]) [] rds := by
 refine bdy Tryz.f96 (hrd := hrd) ?_
 intro F3 hF1 hF2
 simp only [Tryz.f96, cx, Nat.add_zero, go_sem, meths]
 refine CallVC.sameP (contains_ok ks k (by omega)) rfl ?_
 simp only [hk, go_sem]
 repeat refine sd1 ?_
 refine CallVC.same (readReset_ok s 128 [] [.ptr ⟨L + 1, 32⟩ 0 0, .ptr ⟨L + 1, 64⟩ 0 0, .ptr ⟨L + 1, 0⟩ 0 0] l hlw hnf (⟨L + 1, 32⟩ :: ⟨L + 1, 64⟩ :: ⟨L + 1, 0⟩ :: rds) (fun n hn => ?_) ?_) ?_
 ·simp only [List.mem_cons] at hn
  rcases hn with rfl | rfl | rfl | hn <;> first | exact Nat.le_refl _ | (have := hrd n hn; omega)
 ·intro F' r nx' hF' hr hFr
  have hne : ∀ (m : Nm), m.l ≤ L + 1 → m ≠ r := fun m hm e => by rw [e, hr] at hm; omega
  refine getReset1_ok r ⟨L + 1, 32⟩ ⟨L + 1, 64⟩ ⟨L + 1, 0⟩ (Nat.le_of_eq hr) (by simp) (by simp) (by simp) (hne _ (Nat.le_refl _)) (hne _ (Nat.le_refl _)) (hne _ (Nat.le_refl _)) s hl k fl _ _ _ _ _ _ _ g gp xs ys l hlw hnf rds (fun n hn => ⟨by have := hrd n hn; omega, hne n (by have := hrd n hn; omega)⟩) hFr ((hF' _ (by simp)).trans (by simp; first | exact ⟨rfl, rfl, rfl⟩ | exact ⟨rfl, rfl⟩ | rfl)) ((hF' _ (by simp)).trans (by simp; first | exact ⟨rfl, rfl, rfl⟩ | exact ⟨rfl, rfl⟩ | rfl)) ((hF' _ (by simp)).trans (by simp; first | exact ⟨rfl, rfl, rfl⟩ | exact ⟨rfl, rfl⟩ | rfl)) (hg.agree fun n hn => ?_) hp
  have e5 : ∀ k, (n = (⟨L + 1, k⟩ : Nm)) = False := nm_out (hrd n hn)
  rw [hF' n (by simp [hn])]
  simp [e5, hF1 n hn]
 simp only [hlw, hnf, go_sem]
 repeat refine sd1 ?_
 exact PostF.of (p := True) (v0 := .tup [.agg l, .int .i64 0]) (.inr rfl) (by simp only [resVal, resVals, resVal1, one, go_sem]) trivial (wk_refl _ _).1 (by rw [(wk_refl (fun _ => none) _).2]; simp) (by simp only [Tx.nf, nfl, hnf]; rfl) trivial (by simp [UpdAll, keys])
theorem getReset_bad {F : SF} {L nx : Nat} (s : List UInt8) (hl : s.length ≤ 1000000) (k fl : Int) (g gp : FuncId) (xs ys : List PV) (ks : List Int) (hk : (ks.any fun x => k == x) = true) (hks : ks.length ≤ 1000) (rds : List Nm) (hrd : ∀ n ∈ rds, n.l ≤ L)
  (hg : GetBad g gp xs ys s k fl 5 F rds) : Con Tryz.prog 96 [.agg [.int .i64 k, .int .i64 fl, .str s], .fn (.func g) xs ys, .fn (.func gp) [] [], .fs 1 (ks.map eI)] F L nx nx (.tup [.agg [.int .i64 0, .int .i64 0, .int .i64 0, .int .i64 0, .nilS], .int .i64 5]) [] rds := by
 refine bdy Tryz.f96 (hrd := hrd) ?_
 intro F3 hF1 hF2
 simp only [Tryz.f96, cx, Nat.add_zero, go_sem, meths]
 refine CallVC.sameP (contains_ok ks k (by omega)) rfl ?_
 simp only [hk, go_sem]
 repeat refine sd1 ?_
 refine CallVC.same (readReset_die s 128 [] [.ptr ⟨L + 1, 32⟩ 0 0, .ptr ⟨L + 1, 64⟩ 0 0, .ptr ⟨L + 1, 0⟩ 0 0] (⟨L + 1, 32⟩ :: ⟨L + 1, 64⟩ :: ⟨L + 1, 0⟩ :: rds) (fun n hn => ?_) ?_) ?_
 ·simp only [List.mem_cons] at hn
  rcases hn with rfl | rfl | rfl | hn <;> first | exact Nat.le_refl _ | (have := hrd n hn; omega)
 ·intro F' r hF' hr hFr
  have hne : ∀ (m : Nm), m.l ≤ L + 1 → m ≠ r := fun m hm e => by rw [e, hr] at hm; omega
  have hag : ∀ n ∈ rds, F' n = F n := fun n hn => by
   have e5 : ∀ k, (n = (⟨L + 1, k⟩ : Nm)) = False := nm_out (hrd n hn)
   rw [hF' n (by simp [hn])]
   simp [e5, hF1 n hn]
  have hrd' : ∀ n ∈ rds, n.l ≤ L + 1 + 2 ∧ n ≠ r := fun n hn => ⟨by have := hrd n hn; omega, hne n (by have := hrd n hn; omega)⟩
  rcases hg with hg | ⟨l, p, hlw, hnf, hp, hg⟩ | ⟨l, k2, fl2, e2, b2, hlw, hnf, hg, hp, hb⟩
  ·exact getReset1_dieOf r ⟨L + 1, 32⟩ ⟨L + 1, 64⟩ ⟨L + 1, 0⟩ (Nat.le_of_eq hr) (by simp) (by simp) (by simp) (hne _ (Nat.le_refl _)) (hne _ (Nat.le_refl _)) (hne _ (Nat.le_refl _)) s hl k fl _ _ _ _ _ _ _ g gp xs ys (List.replicate 5 (.bool false)) (by simp) (by rfl) rds hrd' hFr ((hF' _ (by simp)).trans (by simp; first | exact ⟨rfl, rfl, rfl⟩ | exact ⟨rfl, rfl⟩ | rfl)) ((hF' _ (by simp)).trans (by simp; first | exact ⟨rfl, rfl, rfl⟩ | exact ⟨rfl, rfl⟩ | rfl)) ((hF' _ (by simp)).trans (by simp; first | exact ⟨rfl, rfl, rfl⟩ | exact ⟨rfl, rfl⟩ | rfl)) (hg.agree hag)
  ·exact getReset1_dieAt r ⟨L + 1, 32⟩ ⟨L + 1, 64⟩ ⟨L + 1, 0⟩ (Nat.le_of_eq hr) (by simp) (by simp) (by simp) (hne _ (Nat.le_refl _)) (hne _ (Nat.le_refl _)) (hne _ (Nat.le_refl _)) s hl k fl _ _ _ _ _ _ _ g gp xs ys l hlw hnf rds hrd' hFr ((hF' _ (by simp)).trans (by simp; first | exact ⟨rfl, rfl, rfl⟩ | exact ⟨rfl, rfl⟩ | rfl)) ((hF' _ (by simp)).trans (by simp; first | exact ⟨rfl, rfl, rfl⟩ | exact ⟨rfl, rfl⟩ | rfl)) ((hF' _ (by simp)).trans (by simp; first | exact ⟨rfl, rfl, rfl⟩ | exact ⟨rfl, rfl⟩ | rfl)) p hp (hg.agree hag)
  ·exact getReset1_dieBack r ⟨L + 1, 32⟩ ⟨L + 1, 64⟩ ⟨L + 1, 0⟩ (Nat.le_of_eq hr) (by simp) (by simp) (by simp) (hne _ (Nat.le_refl _)) (hne _ (Nat.le_refl _)) (hne _ (Nat.le_refl _)) s hl k fl _ _ _ _ _ _ _ g gp xs ys l hlw hnf rds hrd' hFr ((hF' _ (by simp)).trans (by simp; first | exact ⟨rfl, rfl, rfl⟩ | exact ⟨rfl, rfl⟩ | rfl)) ((hF' _ (by simp)).trans (by simp; first | exact ⟨rfl, rfl, rfl⟩ | exact ⟨rfl, rfl⟩ | rfl)) ((hF' _ (by simp)).trans (by simp; first | exact ⟨rfl, rfl, rfl⟩ | exact ⟨rfl, rfl⟩ | rfl)) (hg.agree hag) k2 fl2 e2 b2 hp hb
 simp only [go_sem]
 repeat refine sd1 ?_
 exact PostF.rs (v0 := .tup [.agg [.int .i64 0, .int .i64 0, .int .i64 0, .int .i64 0, .nilS], .int .i64 5]) (.inr rfl)
end Go.Proofs.YtaacfnngodhecaaGreatDoor
end
