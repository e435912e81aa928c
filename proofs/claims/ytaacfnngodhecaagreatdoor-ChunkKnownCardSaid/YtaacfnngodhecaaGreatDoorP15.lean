/- Lemmas for the walk: WK6, WK21, U42, WK22, WK23. -/
import Derived.Test.YtaacfnngodhecaaGreatDoorP11
import Derived.Test.YtaacfnngodhecaaGreatDoorP12
import Derived.Test.YtaacfnngodhecaaGreatDoorP14
set_option linter.all false
section
namespace Go.Proofs.YtaacfnngodhecaaGreatDoor
open Go.Tx
set_option maxRecDepth 100000
set_option maxHeartbeats 16000000
theorem BW_dead {L : Nat} {G : SF} {ob : Option SBlk} : BW L G ob .dead := by
 cases ob with
 | none => trivial
 | some b => cases b <;> trivial
def OfOk (g : FuncId) (xs ys : List PV) (s : List UInt8) (v : PV) (p : Nat) (F : SF) (rds : List Nm) : Prop :=
 ∀ (F' : SF) (L : Nat) (r : Nm) (nx : Nat), (∀ n ∈ rds, F' n = F n) → r.l ≤ L → (∀ n ∈ rds, n.l ≤ L) → F' r = some (rdB s 0) → Con Tryz.prog g (xs ++ [.ptr r 0 0] ++ ys) F' L nx nx v [(r, rdB s p)] (r :: rds)
def OfDie (g : FuncId) (xs ys : List PV) (s : List UInt8) (F : SF) (rds : List Nm) : Prop :=
 ∀ (F' : SF) (L : Nat) (r : Nm), (∀ n ∈ rds, F' n = F n) → r.l ≤ L → (∀ n ∈ rds, n.l ≤ L) → F' r = some (rdB s 0) → DCon Tryz.prog chM g (xs ++ [.ptr r 0 0] ++ ys) F' L [(r, .dead)] (r :: rds)
def PutOk (gp : FuncId) (l : List PV) (k fl : Int) (b : List UInt8) (e : Int) : Prop :=
 ∀ (F : SF) (L nx : Nat), Con Tryz.prog gp [.agg l] F L nx nx (.tup [.agg [.int .i64 k, .int .i64 fl, .str b], .int .i64 e]) [] []
theorem OfOk.agree {g : FuncId} {xs ys : List PV} {s : List UInt8} {v : PV} {p : Nat} {F F2 : SF} {rds : List Nm} (h : OfOk g xs ys s v p F rds) (ha : ∀ n ∈ rds, F2 n = F n) : OfOk g xs ys s v p F2 rds :=
 fun F' L r nx h1 => h F' L r nx fun n hn => (h1 n hn).trans (ha n hn)
theorem OfDie.agree {g : FuncId} {xs ys : List PV} {s : List UInt8} {F F2 : SF} {rds : List Nm} (h : OfDie g xs ys s F rds) (ha : ∀ n ∈ rds, F2 n = F n) : OfDie g xs ys s F2 rds :=
 fun F' L r h1 => h F' L r fun n hn => (h1 n hn).trans (ha n hn)
def GetBad (g gp : FuncId) (xs ys : List PV) (s : List UInt8) (k fl : Int) (w : Nat) (F : SF) (rds : List Nm) : Prop :=
 OfDie g xs ys s F rds ∨ (∃ l p, l.length = w ∧ nfl l = true ∧ p ≠ s.length ∧ OfOk g xs ys s (.agg l) p F rds) ∨
 (∃ l k2 fl2 e2 b2, l.length = w ∧ nfl l = true ∧ OfOk g xs ys s (.agg l) s.length F rds ∧ PutOk gp l k2 fl2 b2 e2 ∧ ¬(e2 = 0 ∧ k2 = k ∧ fl2 = fl ∧ b2 = s))
def GX1ok (f : FuncId) (w : Nat) : Prop := ∀ {F : SF} {L nx : Nat} (r nof npt nc : Nm) (hr : r.l ≤ L) (hof : nof.l ≤ L) (hpt : npt.l ≤ L) (hc : nc.l ≤ L) (d1 : nof ≠ r) (d2 : npt ≠ r) (d3 : nc ≠ r) (s : List UInt8) (hl : s.length ≤ 1000000) (k fl : Int) (eo ep : TypeId) (oo op po pp oc : Bool) (g gp : FuncId) (xs ys : List PV) (l : List PV) (hlw : l.length = w) (hnf : nfl l = true) (rds : List Nm) (hrd : ∀ n ∈ rds, n.l ≤ L ∧ n ≠ r)
  (hFr : F r = some (rdB s 0)) (hFo : F nof = some (.rows eo 1 oo po [[.fn (.func g) xs ys]])) (hFp : F npt = some (.rows ep 1 op pp [[.fn (.func gp) [] []]])) (hFc : F nc = some (.rows 34 3 oc true [[.int .i64 k, .int .i64 fl, .str s]]))
  (hg : OfOk g xs ys s (.agg l) s.length F rds) (hp : PutOk gp l k fl s 0),
  Con Tryz.prog f [.ptr r 0 0, .ptr nof 0 0, .ptr npt 0 0, .ptr nc 0 0] F L nx nx (.agg l) [(r, .dead)] (r :: nof :: npt :: nc :: rds)
theorem getX1_ok : GX1ok 120 8 ∧ GX1ok 122 6 ∧ GX1ok 124 4 ∧ GX1ok 126 2 ∧ GX1ok 128 5 := by
 refine ⟨?_, ?_, ?_, ?_, ?_⟩
 all_goals
  unfold GX1ok
  intro F L nx r nof npt nc hr hof hpt hc d1 d2 d3 s hl k fl eo ep oo op po pp oc g gp xs ys l hlw hnf rds hrd hFr hFo hFp hFc hg hp
 refine bdy Tryz.f120 (hrd := (by intro n hn; simp at hn; rcases hn with rfl | rfl | rfl | rfl | hn <;> first | assumption | exact (hrd n hn).1)) ?_
 rotate_left
 refine bdy Tryz.f122 (hrd := (by intro n hn; simp at hn; rcases hn with rfl | rfl | rfl | rfl | hn <;> first | assumption | exact (hrd n hn).1)) ?_
 rotate_left
 refine bdy Tryz.f124 (hrd := (by intro n hn; simp at hn; rcases hn with rfl | rfl | rfl | rfl | hn <;> first | assumption | exact (hrd n hn).1)) ?_
 rotate_left
 refine bdy Tryz.f126 (hrd := (by intro n hn; simp at hn; rcases hn with rfl | rfl | rfl | rfl | hn <;> first | assumption | exact (hrd n hn).1)) ?_
 rotate_left
 refine bdy Tryz.f128 (hrd := (by intro n hn; simp at hn; rcases hn with rfl | rfl | rfl | rfl | hn <;> first | assumption | exact (hrd n hn).1)) ?_
 rotate_left
 all_goals
  intro F3 hF1 hF2
  have kr : F3 r = some (rdB s 0) := (hF1 r (by simp)).trans hFr
  have ko : F3 nof = some (.rows eo 1 oo po [[.fn (.func g) xs ys]]) := (hF1 nof (by simp)).trans hFo
  have kp : F3 npt = some (.rows ep 1 op pp [[.fn (.func gp) [] []]]) := (hF1 npt (by simp)).trans hFp
  have kc : F3 nc = some (.rows 34 3 oc true [[.int .i64 k, .int .i64 fl, .str s]]) := (hF1 nc (by simp)).trans hFc
  have n1 : ∀ k, (r = (⟨L + 1, k⟩ : Nm)) = False := nm_out hr
  have n2 : ∀ k, ((⟨L + 1, k⟩ : Nm) = r) = False := nm_out' hr
  have o1 : ∀ k, (nof = (⟨L + 1, k⟩ : Nm)) = False := nm_out hof
  have o2 : ∀ k, (npt = (⟨L + 1, k⟩ : Nm)) = False := nm_out hpt
  have o3 : ∀ k, (nc = (⟨L + 1, k⟩ : Nm)) = False := nm_out hc
  have e1 : (nof = r) = False := eq_false d1
  have e2 : (npt = r) = False := eq_false d2
  have e3 : (nc = r) = False := eq_false d3
  simp only [Tryz.f120, Tryz.f122, Tryz.f124, Tryz.f126, Tryz.f128, cx, kr, ko, kp, kc, n1, n2, o1, o2, o3, e1, e2, e3, Nat.add_zero, go_sem, Meths.get, meths]
  refine CallVC.same (hg _ (L + 1) r _ (fun n hn => ?_) (by omega) (fun n hn => by have := (hrd n hn).1; omega) (by simp [Tx.look, n1, kr])) ?_
  ·have e5 : ∀ k, (n = (⟨L + 1, k⟩ : Nm)) = False := nm_out (hrd n hn).1
   simp [Tx.look, e5, hF1 n (by simp [hn])]
  simp only [rdB, kr, ko, kp, kc, n1, n2, o1, o2, o3, e1, e2, e3, hlw, hnf, Nat.add_zero, go_sem, Meths.get, meths]
  repeat refine sd1 ?_
  refine CallVC.sameP must_ok rfl ?_
  simp only [rdB, kr, ko, kp, kc, n1, n2, o1, o2, o3, e1, e2, e3, hlw, hnf, Nat.add_zero, go_sem, Meths.get, meths]
  repeat refine sd1 ?_
  refine CallVC.sameP (hp _ _ _) rfl ?_
  simp only [rdB, kr, ko, kp, kc, n1, n2, o1, o2, o3, e1, e2, e3, hlw, hnf, Nat.add_zero, go_sem, Meths.get, meths]
  repeat refine sd1 ?_
  refine CallVC.sameP must_ok rfl ?_
  simp only [rdB, kr, ko, kp, kc, n1, n2, o1, o2, o3, e1, e2, e3, hlw, hnf, Nat.add_zero, go_sem, Meths.get, meths]
  repeat refine sd1 ?_
  exact PostF.of (p := True) (v0 := .agg l) (.inr rfl) (by simp only [resVal, resVals, resVal1, Tx.one, hlw, Nat.add_zero, go_sem, Meths.get, meths]) trivial (wk_refl _ _).1 (by rw [(wk_refl (fun _ => none) _).2]; simp) (by simp only [Tx.nf]; exact hnf) ⟨hr, BW_dead, trivial⟩ (by simp [UpdAll, keys])
theorem getData1_ok : GX1ok 120 8 := getX1_ok.1
theorem getInit1_ok : GX1ok 122 6 := getX1_ok.2.1
theorem getSack1_ok : GX1ok 124 4 := getX1_ok.2.2.1
theorem getForward1_ok : GX1ok 126 2 := getX1_ok.2.2.2.1
theorem getReset1_ok : GX1ok 128 5 := getX1_ok.2.2.2.2
def GX1dieOf (f : FuncId) : Prop := ∀ {F : SF} {L : Nat} (r nof npt nc : Nm) (hr : r.l ≤ L) (hof : nof.l ≤ L) (hpt : npt.l ≤ L) (hc : nc.l ≤ L) (d1 : nof ≠ r) (d2 : npt ≠ r) (d3 : nc ≠ r) (s : List UInt8) (hl : s.length ≤ 1000000) (k fl : Int) (eo ep : TypeId) (oo op po pp oc : Bool) (g gp : FuncId) (xs ys : List PV) (rds : List Nm) (hrd : ∀ n ∈ rds, n.l ≤ L ∧ n ≠ r)
  (hFr : F r = some (rdB s 0)) (hFo : F nof = some (.rows eo 1 oo po [[.fn (.func g) xs ys]])) (hFp : F npt = some (.rows ep 1 op pp [[.fn (.func gp) [] []]])) (hFc : F nc = some (.rows 34 3 oc true [[.int .i64 k, .int .i64 fl, .str s]]))
  (hg : OfDie g xs ys s F rds),
  DCon Tryz.prog chM f [.ptr r 0 0, .ptr nof 0 0, .ptr npt 0 0, .ptr nc 0 0] F L [(r, .dead)] (r :: nof :: npt :: nc :: rds)
theorem getX1_dieOf : GX1dieOf 120 ∧ GX1dieOf 122 ∧ GX1dieOf 124 ∧ GX1dieOf 126 ∧ GX1dieOf 128 := by
 refine ⟨?_, ?_, ?_, ?_, ?_⟩
 all_goals
  unfold GX1dieOf
  intro F L r nof npt nc hr hof hpt hc d1 d2 d3 s hl k fl eo ep oo op po pp oc g gp xs ys rds hrd hFr hFo hFp hFc hg
 refine DCon.body (cxOk (L + 1)) rfl rfl (fn := Tryz.f120) (c := Tryz.f120.body.getD .skip) (by kernel_rfl) (by rfl) (by kernel_rfl) rfl (by intro n hn; simp at hn; rcases hn with rfl | rfl | rfl | rfl | hn <;> first | assumption | exact (hrd n hn).1) ?_
 rotate_left
 refine DCon.body (cxOk (L + 1)) rfl rfl (fn := Tryz.f122) (c := Tryz.f122.body.getD .skip) (by kernel_rfl) (by rfl) (by kernel_rfl) rfl (by intro n hn; simp at hn; rcases hn with rfl | rfl | rfl | rfl | hn <;> first | assumption | exact (hrd n hn).1) ?_
 rotate_left
 refine DCon.body (cxOk (L + 1)) rfl rfl (fn := Tryz.f124) (c := Tryz.f124.body.getD .skip) (by kernel_rfl) (by rfl) (by kernel_rfl) rfl (by intro n hn; simp at hn; rcases hn with rfl | rfl | rfl | rfl | hn <;> first | assumption | exact (hrd n hn).1) ?_
 rotate_left
 refine DCon.body (cxOk (L + 1)) rfl rfl (fn := Tryz.f126) (c := Tryz.f126.body.getD .skip) (by kernel_rfl) (by rfl) (by kernel_rfl) rfl (by intro n hn; simp at hn; rcases hn with rfl | rfl | rfl | rfl | hn <;> first | assumption | exact (hrd n hn).1) ?_
 rotate_left
 refine DCon.body (cxOk (L + 1)) rfl rfl (fn := Tryz.f128) (c := Tryz.f128.body.getD .skip) (by kernel_rfl) (by rfl) (by kernel_rfl) rfl (by intro n hn; simp at hn; rcases hn with rfl | rfl | rfl | rfl | hn <;> first | assumption | exact (hrd n hn).1) ?_
 rotate_left
 all_goals
  intro F3 hF1 hF2
  have kr : F3 r = some (rdB s 0) := (hF1 r (by simp)).trans hFr
  have ko : F3 nof = some (.rows eo 1 oo po [[.fn (.func g) xs ys]]) := (hF1 nof (by simp)).trans hFo
  have kp : F3 npt = some (.rows ep 1 op pp [[.fn (.func gp) [] []]]) := (hF1 npt (by simp)).trans hFp
  have kc : F3 nc = some (.rows 34 3 oc true [[.int .i64 k, .int .i64 fl, .str s]]) := (hF1 nc (by simp)).trans hFc
  have n1 : ∀ k, (r = (⟨L + 1, k⟩ : Nm)) = False := nm_out hr
  have n2 : ∀ k, ((⟨L + 1, k⟩ : Nm) = r) = False := nm_out' hr
  have o1 : ∀ k, (nof = (⟨L + 1, k⟩ : Nm)) = False := nm_out hof
  have o2 : ∀ k, (npt = (⟨L + 1, k⟩ : Nm)) = False := nm_out hpt
  have o3 : ∀ k, (nc = (⟨L + 1, k⟩ : Nm)) = False := nm_out hc
  have e1 : (nof = r) = False := eq_false d1
  have e2 : (npt = r) = False := eq_false d2
  have e3 : (nc = r) = False := eq_false d3
  simp only [Tryz.f120, Tryz.f122, Tryz.f124, Tryz.f126, Tryz.f128, cx, kr, ko, kp, kc, n1, n2, o1, o2, o3, e1, e2, e3, Nat.add_zero, go_sem, Meths.get, meths]
  refine CallVD.same rfl (hg _ (L + 1) r (fun n hn => ?_) (by omega) (fun n hn => by have := (hrd n hn).1; omega) (by simp [Tx.look, n1, kr])) ?_
  ·have e5 : ∀ k, (n = (⟨L + 1, k⟩ : Nm)) = False := nm_out (hrd n hn).1
   simp [Tx.look, e5, hF1 n (by simp [hn])]
  exact .dead (ns := [r]) (by simpa using hr) (by simp [UpdAll, keys, updH, setH, n1, n2])
theorem getData1_dieOf : GX1dieOf 120 := getX1_dieOf.1
theorem getInit1_dieOf : GX1dieOf 122 := getX1_dieOf.2.1
theorem getSack1_dieOf : GX1dieOf 124 := getX1_dieOf.2.2.1
theorem getForward1_dieOf : GX1dieOf 126 := getX1_dieOf.2.2.2.1
theorem getReset1_dieOf : GX1dieOf 128 := getX1_dieOf.2.2.2.2
def GX1dieAt (f : FuncId) (w : Nat) : Prop := ∀ {F : SF} {L : Nat} (r nof npt nc : Nm) (hr : r.l ≤ L) (hof : nof.l ≤ L) (hpt : npt.l ≤ L) (hc : nc.l ≤ L) (d1 : nof ≠ r) (d2 : npt ≠ r) (d3 : nc ≠ r) (s : List UInt8) (hl : s.length ≤ 1000000) (k fl : Int) (eo ep : TypeId) (oo op po pp oc : Bool) (g gp : FuncId) (xs ys : List PV) (l : List PV) (hlw : l.length = w) (hnf : nfl l = true) (rds : List Nm) (hrd : ∀ n ∈ rds, n.l ≤ L ∧ n ≠ r)
  (hFr : F r = some (rdB s 0)) (hFo : F nof = some (.rows eo 1 oo po [[.fn (.func g) xs ys]])) (hFp : F npt = some (.rows ep 1 op pp [[.fn (.func gp) [] []]])) (hFc : F nc = some (.rows 34 3 oc true [[.int .i64 k, .int .i64 fl, .str s]]))
  (p : Nat) (hps : p ≠ s.length) (hg : OfOk g xs ys s (.agg l) p F rds),
  DCon Tryz.prog chM f [.ptr r 0 0, .ptr nof 0 0, .ptr npt 0 0, .ptr nc 0 0] F L [(r, .dead)] (r :: nof :: npt :: nc :: rds)
theorem getX1_dieAt : GX1dieAt 120 8 ∧ GX1dieAt 122 6 ∧ GX1dieAt 124 4 ∧ GX1dieAt 126 2 ∧ GX1dieAt 128 5 := by
 refine ⟨?_, ?_, ?_, ?_, ?_⟩
 all_goals
  unfold GX1dieAt
  intro F L r nof npt nc hr hof hpt hc d1 d2 d3 s hl k fl eo ep oo op po pp oc g gp xs ys l hlw hnf rds hrd hFr hFo hFp hFc p hps hg
 refine DCon.body (cxOk (L + 1)) rfl rfl (fn := Tryz.f120) (c := Tryz.f120.body.getD .skip) (by kernel_rfl) (by rfl) (by kernel_rfl) rfl (by intro n hn; simp at hn; rcases hn with rfl | rfl | rfl | rfl | hn <;> first | assumption | exact (hrd n hn).1) ?_
 rotate_left
 refine DCon.body (cxOk (L + 1)) rfl rfl (fn := Tryz.f122) (c := Tryz.f122.body.getD .skip) (by kernel_rfl) (by rfl) (by kernel_rfl) rfl (by intro n hn; simp at hn; rcases hn with rfl | rfl | rfl | rfl | hn <;> first | assumption | exact (hrd n hn).1) ?_
 rotate_left
 refine DCon.body (cxOk (L + 1)) rfl rfl (fn := Tryz.f124) (c := Tryz.f124.body.getD .skip) (by kernel_rfl) (by rfl) (by kernel_rfl) rfl (by intro n hn; simp at hn; rcases hn with rfl | rfl | rfl | rfl | hn <;> first | assumption | exact (hrd n hn).1) ?_
 rotate_left
 refine DCon.body (cxOk (L + 1)) rfl rfl (fn := Tryz.f126) (c := Tryz.f126.body.getD .skip) (by kernel_rfl) (by rfl) (by kernel_rfl) rfl (by intro n hn; simp at hn; rcases hn with rfl | rfl | rfl | rfl | hn <;> first | assumption | exact (hrd n hn).1) ?_
 rotate_left
 refine DCon.body (cxOk (L + 1)) rfl rfl (fn := Tryz.f128) (c := Tryz.f128.body.getD .skip) (by kernel_rfl) (by rfl) (by kernel_rfl) rfl (by intro n hn; simp at hn; rcases hn with rfl | rfl | rfl | rfl | hn <;> first | assumption | exact (hrd n hn).1) ?_
 rotate_left
 all_goals
  intro F3 hF1 hF2
  have kr : F3 r = some (rdB s 0) := (hF1 r (by simp)).trans hFr
  have ko : F3 nof = some (.rows eo 1 oo po [[.fn (.func g) xs ys]]) := (hF1 nof (by simp)).trans hFo
  have kp : F3 npt = some (.rows ep 1 op pp [[.fn (.func gp) [] []]]) := (hF1 npt (by simp)).trans hFp
  have kc : F3 nc = some (.rows 34 3 oc true [[.int .i64 k, .int .i64 fl, .str s]]) := (hF1 nc (by simp)).trans hFc
  have n1 : ∀ k, (r = (⟨L + 1, k⟩ : Nm)) = False := nm_out hr
  have n2 : ∀ k, ((⟨L + 1, k⟩ : Nm) = r) = False := nm_out' hr
  have o1 : ∀ k, (nof = (⟨L + 1, k⟩ : Nm)) = False := nm_out hof
  have o2 : ∀ k, (npt = (⟨L + 1, k⟩ : Nm)) = False := nm_out hpt
  have o3 : ∀ k, (nc = (⟨L + 1, k⟩ : Nm)) = False := nm_out hc
  have e1 : (nof = r) = False := eq_false d1
  have e2 : (npt = r) = False := eq_false d2
  have e3 : (nc = r) = False := eq_false d3
  simp only [Tryz.f120, Tryz.f122, Tryz.f124, Tryz.f126, Tryz.f128, cx, kr, ko, kp, kc, n1, n2, o1, o2, o3, e1, e2, e3, Nat.add_zero, go_sem, Meths.get, meths]
  refine CallVD.live (CallVC.same (hg _ (L + 1) r _ (fun n hn => ?_) (by omega) (fun n hn => by have := (hrd n hn).1; omega) (by simp [Tx.look, n1, kr])) ?_)
  ·have e5 : ∀ k, (n = (⟨L + 1, k⟩ : Nm)) = False := nm_out (hrd n hn).1
   simp [Tx.look, e5, hF1 n (by simp [hn])]
  simp only [rdB, kr, ko, kp, kc, n1, n2, o1, o2, o3, e1, e2, e3, hlw, hnf, Nat.add_zero, go_sem, Meths.get, meths]
  have f1 : ((p : Int) == (s.length : Int)) = false := eqF (by omega)
  repeat refine sd1 ?_
  refine RegVD.dieAt 12 [] rfl (by simp) rfl (by kernel_rfl) ?_
  simp only [f1, rdB, kr, ko, kp, kc, n1, n2, o1, o2, o3, e1, e2, e3, hlw, hnf, Nat.add_zero, go_sem, Meths.get, meths]
  refine dieX.same must_die ?_
  simp only [f1, rdB, kr, ko, kp, kc, n1, n2, o1, o2, o3, e1, e2, e3, hlw, hnf, Nat.add_zero, go_sem, Meths.get, meths]
  repeat refine sd1 ?_
  exact fun nz => PostD.all (ns := [r]) rfl (by simpa using hr) (by simp [UpdAll, n1, n2]) (by simp [keys])
theorem getData1_dieAt : GX1dieAt 120 8 := getX1_dieAt.1
theorem getInit1_dieAt : GX1dieAt 122 6 := getX1_dieAt.2.1
theorem getSack1_dieAt : GX1dieAt 124 4 := getX1_dieAt.2.2.1
theorem getForward1_dieAt : GX1dieAt 126 2 := getX1_dieAt.2.2.2.1
theorem getReset1_dieAt : GX1dieAt 128 5 := getX1_dieAt.2.2.2.2
def GX1dieBack (f : FuncId) (w : Nat) : Prop := ∀ {F : SF} {L : Nat} (r nof npt nc : Nm) (hr : r.l ≤ L) (hof : nof.l ≤ L) (hpt : npt.l ≤ L) (hc : nc.l ≤ L) (d1 : nof ≠ r) (d2 : npt ≠ r) (d3 : nc ≠ r) (s : List UInt8) (hl : s.length ≤ 1000000) (k fl : Int) (eo ep : TypeId) (oo op po pp oc : Bool) (g gp : FuncId) (xs ys : List PV) (l : List PV) (hlw : l.length = w) (hnf : nfl l = true) (rds : List Nm) (hrd : ∀ n ∈ rds, n.l ≤ L ∧ n ≠ r)
  (hFr : F r = some (rdB s 0)) (hFo : F nof = some (.rows eo 1 oo po [[.fn (.func g) xs ys]])) (hFp : F npt = some (.rows ep 1 op pp [[.fn (.func gp) [] []]])) (hFc : F nc = some (.rows 34 3 oc true [[.int .i64 k, .int .i64 fl, .str s]]))
  (hg : OfOk g xs ys s (.agg l) s.length F rds) (k2 fl2 e2 : Int) (b2 : List UInt8) (hp : PutOk gp l k2 fl2 b2 e2) (hne : ¬(e2 = 0 ∧ k2 = k ∧ fl2 = fl ∧ b2 = s)),
  DCon Tryz.prog chM f [.ptr r 0 0, .ptr nof 0 0, .ptr npt 0 0, .ptr nc 0 0] F L [(r, .dead)] (r :: nof :: npt :: nc :: rds)
theorem getX1_dieBack : GX1dieBack 120 8 ∧ GX1dieBack 122 6 ∧ GX1dieBack 124 4 ∧ GX1dieBack 126 2 ∧ GX1dieBack 128 5 := by
 refine ⟨?_, ?_, ?_, ?_, ?_⟩
 all_goals
  unfold GX1dieBack
  intro F L r nof npt nc hr hof hpt hc d1 d2 d3 s hl k fl eo ep oo op po pp oc g gp xs ys l hlw hnf rds hrd hFr hFo hFp hFc hg k2 fl2 e2 b2 hp hne
 refine DCon.body (cxOk (L + 1)) rfl rfl (fn := Tryz.f120) (c := Tryz.f120.body.getD .skip) (by kernel_rfl) (by rfl) (by kernel_rfl) rfl (by intro n hn; simp at hn; rcases hn with rfl | rfl | rfl | rfl | hn <;> first | assumption | exact (hrd n hn).1) ?_
 rotate_left
 refine DCon.body (cxOk (L + 1)) rfl rfl (fn := Tryz.f122) (c := Tryz.f122.body.getD .skip) (by kernel_rfl) (by rfl) (by kernel_rfl) rfl (by intro n hn; simp at hn; rcases hn with rfl | rfl | rfl | rfl | hn <;> first | assumption | exact (hrd n hn).1) ?_
 rotate_left
 refine DCon.body (cxOk (L + 1)) rfl rfl (fn := Tryz.f124) (c := Tryz.f124.body.getD .skip) (by kernel_rfl) (by rfl) (by kernel_rfl) rfl (by intro n hn; simp at hn; rcases hn with rfl | rfl | rfl | rfl | hn <;> first | assumption | exact (hrd n hn).1) ?_
 rotate_left
 refine DCon.body (cxOk (L + 1)) rfl rfl (fn := Tryz.f126) (c := Tryz.f126.body.getD .skip) (by kernel_rfl) (by rfl) (by kernel_rfl) rfl (by intro n hn; simp at hn; rcases hn with rfl | rfl | rfl | rfl | hn <;> first | assumption | exact (hrd n hn).1) ?_
 rotate_left
 refine DCon.body (cxOk (L + 1)) rfl rfl (fn := Tryz.f128) (c := Tryz.f128.body.getD .skip) (by kernel_rfl) (by rfl) (by kernel_rfl) rfl (by intro n hn; simp at hn; rcases hn with rfl | rfl | rfl | rfl | hn <;> first | assumption | exact (hrd n hn).1) ?_
 rotate_left
 all_goals
  intro F3 hF1 hF2
  have kr : F3 r = some (rdB s 0) := (hF1 r (by simp)).trans hFr
  have ko : F3 nof = some (.rows eo 1 oo po [[.fn (.func g) xs ys]]) := (hF1 nof (by simp)).trans hFo
  have kp : F3 npt = some (.rows ep 1 op pp [[.fn (.func gp) [] []]]) := (hF1 npt (by simp)).trans hFp
  have kc : F3 nc = some (.rows 34 3 oc true [[.int .i64 k, .int .i64 fl, .str s]]) := (hF1 nc (by simp)).trans hFc
  have n1 : ∀ k, (r = (⟨L + 1, k⟩ : Nm)) = False := nm_out hr
  have n2 : ∀ k, ((⟨L + 1, k⟩ : Nm) = r) = False := nm_out' hr
  have o1 : ∀ k, (nof = (⟨L + 1, k⟩ : Nm)) = False := nm_out hof
  have o2 : ∀ k, (npt = (⟨L + 1, k⟩ : Nm)) = False := nm_out hpt
  have o3 : ∀ k, (nc = (⟨L + 1, k⟩ : Nm)) = False := nm_out hc
  have e1 : (nof = r) = False := eq_false d1
  have e2' : (npt = r) = False := eq_false d2
  have e3 : (nc = r) = False := eq_false d3
  simp only [Tryz.f120, Tryz.f122, Tryz.f124, Tryz.f126, Tryz.f128, cx, kr, ko, kp, kc, n1, n2, o1, o2, o3, e1, e2', e3, Nat.add_zero, go_sem, Meths.get, meths]
  refine CallVD.live (CallVC.same (hg _ (L + 1) r _ (fun n hn => ?_) (by omega) (fun n hn => by have := (hrd n hn).1; omega) (by simp [Tx.look, n1, kr])) ?_)
  ·have e5 : ∀ k, (n = (⟨L + 1, k⟩ : Nm)) = False := nm_out (hrd n hn).1
   simp [Tx.look, e5, hF1 n (by simp [hn])]
  simp only [rdB, kr, ko, kp, kc, n1, n2, o1, o2, o3, e1, e2', e3, hlw, hnf, Nat.add_zero, go_sem, Meths.get, meths]
  repeat refine sd1 ?_
  refine RegVD.live ?_
  repeat refine sd1 ?_
  refine CallVC.sameP must_ok rfl ?_
  simp only [rdB, kr, ko, kp, kc, n1, n2, o1, o2, o3, e1, e2', e3, hlw, hnf, Nat.add_zero, go_sem, Meths.get, meths]
  repeat refine sd1 ?_
  refine CallVD.live (CallVC.sameP (hp _ _ _) rfl ?_)
  simp only [rdB, kr, ko, kp, kc, n1, n2, o1, o2, o3, e1, e2', e3, hlw, hnf, Nat.add_zero, go_sem, Meths.get, meths]
  repeat refine sd1 ?_
  refine brB.mk (fun h => ?_) (fun h => ?_)
  ·have h1 : e2 = 0 := by simpa using h
   have f2 : (k2 == k && (fl2 == fl && b2 == s)) = false := by
    rw [Bool.eq_false_iff]
    intro h2
    simp only [Bool.and_eq_true, beq_iff_eq] at h2
    exact hne ⟨h1, h2.1, h2.2.1, h2.2.2⟩
   simp only [f2]
   refine CallVD.same rfl must_die ?_
   exact .dead (ns := [r]) (by simpa using hr) (by simp [UpdAll, keys, updH, setH, n1, n2])
  ·simp only [h, Bool.not_true, Nat.add_zero, go_sem, Meths.get, meths]
   refine CallVD.same rfl must_die ?_
   exact .dead (ns := [r]) (by simpa using hr) (by simp [UpdAll, keys, updH, setH, n1, n2])
theorem getData1_dieBack : GX1dieBack 120 8 := getX1_dieBack.1
theorem getInit1_dieBack : GX1dieBack 122 6 := getX1_dieBack.2.1
theorem getSack1_dieBack : GX1dieBack 124 4 := getX1_dieBack.2.2.1
theorem getForward1_dieBack : GX1dieBack 126 2 := getX1_dieBack.2.2.2.1
theorem getReset1_dieBack : GX1dieBack 128 5 := getX1_dieBack.2.2.2.2
def GXkind (f : FuncId) (z : List PV) : Prop := ∀ {F : SF} {L nx : Nat} (s : List UInt8) (k fl : Int) (g gp : FuncId) (xs ys : List PV) (ks : List Int) (hk : (ks.any fun x => k == x) = false) (hks : ks.length ≤ 1000),
  Con Tryz.prog f [.agg [.int .i64 k, .int .i64 fl, .str s], .fn (.func g) xs ys, .fn (.func gp) [] [], .fs 1 (ks.map eI)] F L nx nx (.tup [.agg z, .int .i64 2]) [] []
theorem getX_kind : GXkind 84 [.int .i64 0, .int .i64 0, .int .i64 0, .int .i64 0, .bool false, .bool false, .bool false, .str []] ∧ GXkind 87 [.int .i64 0, .int .i64 0, .int .i64 0, .int .i64 0, .int .i64 0, .str []] ∧ GXkind 89 [.int .i64 0, .int .i64 0, .nilS, .nilS] ∧ GXkind 93 [.int .i64 0, .nilS] ∧ GXkind 96 [.int .i64 0, .int .i64 0, .int .i64 0, .int .i64 0, .nilS] := by
 refine ⟨?_, ?_, ?_, ?_, ?_⟩
 all_goals
  unfold GXkind
  intro F L nx s k fl g gp xs ys ks hk hks
 refine bdy Tryz.f84 ?_
 rotate_left
 refine bdy Tryz.f87 ?_
 rotate_left
 refine bdy Tryz.f89 ?_
 rotate_left
 refine bdy Tryz.f93 ?_
 rotate_left
 refine bdy Tryz.f96 ?_
 rotate_left
 all_goals
  intro F3 hF1 hF2
  simp only [Tryz.f84, Tryz.f87, Tryz.f89, Tryz.f93, Tryz.f96, cx, Nat.add_zero, go_sem, Meths.get, meths]
  refine CallVC.sameP (contains_ok ks k (by omega)) rfl ?_
  simp only [hk, Nat.add_zero, go_sem, Meths.get, meths]
  repeat refine sd1 ?_
  exact PostF.same (p := True) (.inr rfl) (by simp only [resVal, resVals, resVal1, Tx.one, Nat.add_zero, go_sem, Meths.get, meths]) trivial (by simp [Tx.nf, nfl]) (by simp [UpdAll, keys])
theorem getData_kind : GXkind 84 [.int .i64 0, .int .i64 0, .int .i64 0, .int .i64 0, .bool false, .bool false, .bool false, .str []] := getX_kind.1
theorem getInit_kind : GXkind 87 [.int .i64 0, .int .i64 0, .int .i64 0, .int .i64 0, .int .i64 0, .str []] := getX_kind.2.1
theorem getSack_kind : GXkind 89 [.int .i64 0, .int .i64 0, .nilS, .nilS] := getX_kind.2.2.1
theorem getForward_kind : GXkind 93 [.int .i64 0, .nilS] := getX_kind.2.2.2.1
theorem getReset_kind : GXkind 96 [.int .i64 0, .int .i64 0, .int .i64 0, .int .i64 0, .nilS] := getX_kind.2.2.2.2
def GXok (f : FuncId) (w : Nat) : Prop := ∀ {F : SF} {L nx : Nat} (s : List UInt8) (hl : s.length ≤ 1000000) (k fl : Int) (g gp : FuncId) (xs ys : List PV) (ks : List Int) (hk : (ks.any fun x => k == x) = true) (hks : ks.length ≤ 1000) (l : List PV) (hlw : l.length = w) (hnf : nfl l = true) (rds : List Nm) (hrd : ∀ n ∈ rds, n.l ≤ L)
  (hg : OfOk g xs ys s (.agg l) s.length F rds) (hp : PutOk gp l k fl s 0),
  Con Tryz.prog f [.agg [.int .i64 k, .int .i64 fl, .str s], .fn (.func g) xs ys, .fn (.func gp) [] [], .fs 1 (ks.map eI)] F L nx nx (.tup [.agg l, .int .i64 0]) [] rds
theorem getX_ok : GXok 84 8 ∧ GXok 87 6 ∧ GXok 89 4 ∧ GXok 93 2 ∧ GXok 96 5 := by
 refine ⟨?_, ?_, ?_, ?_, ?_⟩
 all_goals
  unfold GXok
  intro F L nx s hl k fl g gp xs ys ks hk hks l hlw hnf rds hrd hg hp
 refine bdy Tryz.f84 (hrd := hrd) ?_
 have one := @getData1_ok
 have rdO := @readData_ok
 rotate_left
 refine bdy Tryz.f87 (hrd := hrd) ?_
 have one := @getInit1_ok
 have rdO := @readInit_ok
 rotate_left
 refine bdy Tryz.f89 (hrd := hrd) ?_
 have one := @getSack1_ok
 have rdO := @readSack_ok
 rotate_left
 refine bdy Tryz.f93 (hrd := hrd) ?_
 have one := @getForward1_ok
 have rdO := @readForward_ok
 rotate_left
 refine bdy Tryz.f96 (hrd := hrd) ?_
 have one := @getReset1_ok
 have rdO := @readReset_ok
 rotate_left
 all_goals
  intro F3 hF1 hF2
  simp only [Tryz.f84, Tryz.f87, Tryz.f89, Tryz.f93, Tryz.f96, cx, Nat.add_zero, go_sem, Meths.get, meths]
  refine CallVC.sameP (contains_ok ks k (by omega)) rfl ?_
  simp only [hk, hlw, hnf, Nat.add_zero, go_sem, Meths.get, meths]
  repeat refine sd1 ?_
  refine CallVC.same (rdO s _ [] [.ptr ⟨L + 1, 32⟩ 0 0, .ptr ⟨L + 1, 64⟩ 0 0, .ptr ⟨L + 1, 0⟩ 0 0] l hlw hnf (⟨L + 1, 32⟩ :: ⟨L + 1, 64⟩ :: ⟨L + 1, 0⟩ :: rds) (fun n hn => ?_) ?_) ?_
  ·simp only [List.mem_cons] at hn
   rcases hn with rfl | rfl | rfl | hn <;> first | exact Nat.le_refl _ | (have := hrd n hn; omega)
  ·intro F' r nx' hF' hr hFr
   have hne : ∀ (m : Nm), m.l ≤ L + 1 → m ≠ r := fun m hm e => by rw [e, hr] at hm; omega
   refine one r ⟨L + 1, 32⟩ ⟨L + 1, 64⟩ ⟨L + 1, 0⟩ (Nat.le_of_eq hr) (by simp) (by simp) (by simp) (hne _ (Nat.le_refl _)) (hne _ (Nat.le_refl _)) (hne _ (Nat.le_refl _)) s hl k fl _ _ _ _ _ _ _ g gp xs ys l hlw hnf rds (fun n hn => ⟨by have := hrd n hn; omega, hne n (by have := hrd n hn; omega)⟩) hFr ((hF' _ (by simp)).trans (by simp; first | exact ⟨rfl, rfl, rfl⟩ | exact ⟨rfl, rfl⟩ | rfl)) ((hF' _ (by simp)).trans (by simp; first | exact ⟨rfl, rfl, rfl⟩ | exact ⟨rfl, rfl⟩ | rfl)) ((hF' _ (by simp)).trans (by simp; first | exact ⟨rfl, rfl, rfl⟩ | exact ⟨rfl, rfl⟩ | rfl)) (hg.agree fun n hn => ?_) hp
   have e5 : ∀ k, (n = (⟨L + 1, k⟩ : Nm)) = False := nm_out (hrd n hn)
   rw [hF' n (by simp [hn])]
   simp [Tx.look, e5, hF1 n hn]
  simp only [hk, hlw, hnf, Nat.add_zero, go_sem, Meths.get, meths]
  repeat refine sd1 ?_
  exact PostF.of (p := True) (v0 := .tup [.agg l, .int .i64 0]) (.inr rfl) (by simp only [resVal, resVals, resVal1, Tx.one, hlw, Nat.add_zero, go_sem, Meths.get, meths]) trivial (wk_refl _ _).1 (by rw [(wk_refl (fun _ => none) _).2]; simp) (by simp only [Tx.nf, nfl, hnf]; rfl) trivial (by simp [UpdAll, keys])
theorem getData_ok : GXok 84 8 := getX_ok.1
theorem getInit_ok : GXok 87 6 := getX_ok.2.1
theorem getSack_ok : GXok 89 4 := getX_ok.2.2.1
theorem getForward_ok : GXok 93 2 := getX_ok.2.2.2.1
theorem getReset_ok : GXok 96 5 := getX_ok.2.2.2.2
def GXbad (f : FuncId) (w : Nat) (z : List PV) : Prop := ∀ {F : SF} {L nx : Nat} (s : List UInt8) (hl : s.length ≤ 1000000) (k fl : Int) (g gp : FuncId) (xs ys : List PV) (ks : List Int) (hk : (ks.any fun x => k == x) = true) (hks : ks.length ≤ 1000) (rds : List Nm) (hrd : ∀ n ∈ rds, n.l ≤ L)
  (hg : GetBad g gp xs ys s k fl w F rds),
  Con Tryz.prog f [.agg [.int .i64 k, .int .i64 fl, .str s], .fn (.func g) xs ys, .fn (.func gp) [] [], .fs 1 (ks.map eI)] F L nx nx (.tup [.agg z, .int .i64 5]) [] rds
theorem getX_bad : GXbad 84 8 [.int .i64 0, .int .i64 0, .int .i64 0, .int .i64 0, .bool false, .bool false, .bool false, .str []] ∧ GXbad 87 6 [.int .i64 0, .int .i64 0, .int .i64 0, .int .i64 0, .int .i64 0, .str []] ∧ GXbad 89 4 [.int .i64 0, .int .i64 0, .nilS, .nilS] ∧ GXbad 93 2 [.int .i64 0, .nilS] ∧ GXbad 96 5 [.int .i64 0, .int .i64 0, .int .i64 0, .int .i64 0, .nilS] := by
 refine ⟨?_, ?_, ?_, ?_, ?_⟩
 all_goals
  unfold GXbad
  intro F L nx s hl k fl g gp xs ys ks hk hks rds hrd hg
 refine bdy Tryz.f84 (hrd := hrd) ?_
 have dOf := @getData1_dieOf
 have dAt := @getData1_dieAt
 have dBk := @getData1_dieBack
 have rdD := @readData_die
 rotate_left
 refine bdy Tryz.f87 (hrd := hrd) ?_
 have dOf := @getInit1_dieOf
 have dAt := @getInit1_dieAt
 have dBk := @getInit1_dieBack
 have rdD := @readInit_die
 rotate_left
 refine bdy Tryz.f89 (hrd := hrd) ?_
 have dOf := @getSack1_dieOf
 have dAt := @getSack1_dieAt
 have dBk := @getSack1_dieBack
 have rdD := @readSack_die
 rotate_left
 refine bdy Tryz.f93 (hrd := hrd) ?_
 have dOf := @getForward1_dieOf
 have dAt := @getForward1_dieAt
 have dBk := @getForward1_dieBack
 have rdD := @readForward_die
 rotate_left
 refine bdy Tryz.f96 (hrd := hrd) ?_
 have dOf := @getReset1_dieOf
 have dAt := @getReset1_dieAt
 have dBk := @getReset1_dieBack
 have rdD := @readReset_die
 rotate_left
 all_goals
  intro F3 hF1 hF2
  simp only [Tryz.f84, Tryz.f87, Tryz.f89, Tryz.f93, Tryz.f96, cx, Nat.add_zero, go_sem, Meths.get, meths]
  refine CallVC.sameP (contains_ok ks k (by omega)) rfl ?_
  simp only [hk, Nat.add_zero, go_sem, Meths.get, meths]
  repeat refine sd1 ?_
  refine CallVC.same (rdD s _ [] [.ptr ⟨L + 1, 32⟩ 0 0, .ptr ⟨L + 1, 64⟩ 0 0, .ptr ⟨L + 1, 0⟩ 0 0] (⟨L + 1, 32⟩ :: ⟨L + 1, 64⟩ :: ⟨L + 1, 0⟩ :: rds) (fun n hn => ?_) ?_) ?_
  ·simp only [List.mem_cons] at hn
   rcases hn with rfl | rfl | rfl | hn <;> first | exact Nat.le_refl _ | (have := hrd n hn; omega)
  ·intro F' r hF' hr hFr
   have hne : ∀ (m : Nm), m.l ≤ L + 1 → m ≠ r := fun m hm e => by rw [e, hr] at hm; omega
   have hag : ∀ n ∈ rds, F' n = F n := fun n hn => by
    have e5 : ∀ k, (n = (⟨L + 1, k⟩ : Nm)) = False := nm_out (hrd n hn)
    rw [hF' n (by simp [hn])]
    simp [Tx.look, e5, hF1 n hn]
   have hrd' : ∀ n ∈ rds, n.l ≤ L + 1 + 2 ∧ n ≠ r := fun n hn => ⟨by have := hrd n hn; omega, hne n (by have := hrd n hn; omega)⟩
   rcases hg with hg | ⟨l, p, hlw, hnf, hp, hg⟩ | ⟨l, k2, fl2, e2, b2, hlw, hnf, hg, hp, hb⟩
   ·exact dOf r ⟨L + 1, 32⟩ ⟨L + 1, 64⟩ ⟨L + 1, 0⟩ (Nat.le_of_eq hr) (by simp) (by simp) (by simp) (hne _ (Nat.le_refl _)) (hne _ (Nat.le_refl _)) (hne _ (Nat.le_refl _)) s hl k fl _ _ _ _ _ _ _ g gp xs ys rds hrd' hFr ((hF' _ (by simp)).trans (by simp; first | exact ⟨rfl, rfl, rfl⟩ | exact ⟨rfl, rfl⟩ | rfl)) ((hF' _ (by simp)).trans (by simp; first | exact ⟨rfl, rfl, rfl⟩ | exact ⟨rfl, rfl⟩ | rfl)) ((hF' _ (by simp)).trans (by simp; first | exact ⟨rfl, rfl, rfl⟩ | exact ⟨rfl, rfl⟩ | rfl)) (hg.agree hag)
   ·exact dAt r ⟨L + 1, 32⟩ ⟨L + 1, 64⟩ ⟨L + 1, 0⟩ (Nat.le_of_eq hr) (by simp) (by simp) (by simp) (hne _ (Nat.le_refl _)) (hne _ (Nat.le_refl _)) (hne _ (Nat.le_refl _)) s hl k fl _ _ _ _ _ _ _ g gp xs ys l hlw hnf rds hrd' hFr ((hF' _ (by simp)).trans (by simp; first | exact ⟨rfl, rfl, rfl⟩ | exact ⟨rfl, rfl⟩ | rfl)) ((hF' _ (by simp)).trans (by simp; first | exact ⟨rfl, rfl, rfl⟩ | exact ⟨rfl, rfl⟩ | rfl)) ((hF' _ (by simp)).trans (by simp; first | exact ⟨rfl, rfl, rfl⟩ | exact ⟨rfl, rfl⟩ | rfl)) p hp (hg.agree hag)
   ·exact dBk r ⟨L + 1, 32⟩ ⟨L + 1, 64⟩ ⟨L + 1, 0⟩ (Nat.le_of_eq hr) (by simp) (by simp) (by simp) (hne _ (Nat.le_refl _)) (hne _ (Nat.le_refl _)) (hne _ (Nat.le_refl _)) s hl k fl _ _ _ _ _ _ _ g gp xs ys l hlw hnf rds hrd' hFr ((hF' _ (by simp)).trans (by simp; first | exact ⟨rfl, rfl, rfl⟩ | exact ⟨rfl, rfl⟩ | rfl)) ((hF' _ (by simp)).trans (by simp; first | exact ⟨rfl, rfl, rfl⟩ | exact ⟨rfl, rfl⟩ | rfl)) ((hF' _ (by simp)).trans (by simp; first | exact ⟨rfl, rfl, rfl⟩ | exact ⟨rfl, rfl⟩ | rfl)) (hg.agree hag) k2 fl2 e2 b2 hp hb
  simp only [hk, Nat.add_zero, go_sem, Meths.get, meths]
  repeat refine sd1 ?_
  exact PostF.same (p := True) (.inr rfl) (by simp only [resVal, resVals, resVal1, Tx.one, Nat.add_zero, go_sem, Meths.get, meths]) trivial (by simp [Tx.nf, nfl]) (by simp [UpdAll, keys])
theorem getData_bad : GXbad 84 8 [.int .i64 0, .int .i64 0, .int .i64 0, .int .i64 0, .bool false, .bool false, .bool false, .str []] := getX_bad.1
theorem getInit_bad : GXbad 87 6 [.int .i64 0, .int .i64 0, .int .i64 0, .int .i64 0, .int .i64 0, .str []] := getX_bad.2.1
theorem getSack_bad : GXbad 89 4 [.int .i64 0, .int .i64 0, .nilS, .nilS] := getX_bad.2.2.1
theorem getForward_bad : GXbad 93 2 [.int .i64 0, .nilS] := getX_bad.2.2.2.1
theorem getReset_bad : GXbad 96 5 [.int .i64 0, .int .i64 0, .int .i64 0, .int .i64 0, .nilS] := getX_bad.2.2.2.2
theorem chunks_ok {F : SF} {L nx : Nat} (r : Nm) (hr : r.l ≤ L) (hrx : r.l < L ∨ r.i < nx) : Con Tryz.prog 74 [.ptr r 0 0] F L nx (nx + 1) (.fn (.func 114) [] [.ptr ⟨L, nx⟩ 0 0]) [(⟨L, nx⟩, .rows 140 1 true false [[.ptr r 0 0]])] [] := by
 refine bdyN Tryz.f74 ?_
 intro F3 hF1 hF2
 simp only [Tryz.f74, cx, go_sem, meths]
 have n1 : ∀ k, (r = (⟨L + 1, k⟩ : Nm)) = False := nm_out hr
 refine .now (PostN.val [0] (.inr rfl) (by simp) (p := True) (v0 := .fn (.func 114) [] [.ptr ⟨L + 1, 0⟩ 0 0]) ?_ trivial ?_ ?_ ⟨Nat.le_refl _, ?_, trivial⟩ ?_)
 ·simp only [resVal, resVals, resVal1, one, go_sem]
 ·simp [nmA, nmAL, Dn]
 ·simp [Tx.rn, Tx.rnL, sg, List.idxOf, List.findIdx, List.findIdx.go]
 ·rw [kp_at0 (by simp)]
  exact .ren (by simp [Tx.look]; rfl) (by simp [rowsNm, nmA, nmAL, Dn]; omega) (by simp [Tx.rn, Tx.rnL, sg_out hr])
 ·simp [UpdAll, keys]
noncomputable def cxz (L l : Nat) : Cx := ⟨Tryz.prog, tys, meths, false, L, some l, [], [], false, [], fun _ => False⟩
theorem cxzOk (L l : Nat) : (cxz L l).Ok := ⟨tysOk, fieldsOk, mixedOk, methsOk⟩
theorem decode1_ok {F : SF} {L nx : Nat} (r nc : Nm) (hr : r.l ≤ L) (hc : nc.l ≤ L) (hne : nc ≠ r) (s : List UInt8) (hl : s.length ≤ 1200) (h16 : 12 ≤ s.length) (oc : Bool) (hFr : F r = some (rdB s 0)) (hFc : F nc = some (.rows 9 1 oc true [[.str s]]))
  (pos len : Nat → Nat) (N : Nat) (hN : N ≤ 3000) (hp0 : pos 0 = 12) (hat : ∀ i, i < N → CkAt s (pos i) (len i)) (hnx : ∀ i, i < N → pos (i + 1) = ckNx (pos i) (len i)) (hend : pos N = s.length) (p : Pkx) (hpk : p = ⟨getB (s.take 2), getB ((s.drop 2).take 2), getB ((s.drop 4).take 4), (List.range N).map fun j => ckOf s (pos j) (len j)⟩)
  (hok : p.ok = true) (hsum : sumS s = s) : Con Tryz.prog 71 [.ptr r 0 0, .ptr nc 0 0] F L nx nx (.agg p.row) [(r, .dead)] [r, nc] := by
 refine bdy Tryz.f71 (hrd := (by simp; omega)) ?_
 intro F3 hF1 hF2
 have kr : F3 r = some (rdB s 0) := (hF1 r (by simp)).trans hFr
 have kc : F3 nc = some (.rows 9 1 oc true [[.str s]]) := (hF1 nc (by simp)).trans hFc
 have n1 : ∀ k, (r = (⟨L + 1, k⟩ : Nm)) = False := nm_out hr
 have n2 : ∀ k, ((⟨L + 1, k⟩ : Nm) = r) = False := nm_out' hr
 have o1 : ∀ k, (nc = (⟨L + 1, k⟩ : Nm)) = False := nm_out hc
 have o2 : ∀ k, ((⟨L + 1, k⟩ : Nm) = nc) = False := nm_out' hc
 have e1 : (nc = r) = False := eq_false hne
 have e2 : (r = nc) = False := eq_false (Ne.symm hne)
 have h32 : r.l ≤ L + 1 := by omega
 simp only [Tryz.f71, cx, go_sem, meths]
 refine CallVC.same (number_ok r h32 s 0 2 2 rfl (by omega) (by omega) (by omega) (by omega) (by simp [rdB, kr, n1])) ?_
 simp only [rdB, n1, go_sem]
 refine CallVC.same (number_ok r h32 s 2 2 2 rfl (by omega) (by omega) (by omega) (by omega) (by simp [rdB, n1])) ?_
 simp only [rdB, n1, go_sem]
 refine CallVC.same (number_ok r h32 s 4 4 4 rfl (by omega) (by omega) (by omega) (by omega) (by simp [rdB, n1])) ?_
 simp only [rdB, n1, n2, go_sem]
 refine CallVC.same (rtake_ok r h32 s 8 4 4 rfl (by omega) (by omega) (by simp [rdB, n1])) ?_
 simp only [rdB, n1, go_sem]
 refine CallVC.same (chunks_ok r h32 (by omega)) ?_
 simp only [n2, go_sem]
 refine rangeK.intro (v := .tup []) (top := 290) (rd := [⟨L + 1, 288⟩, r, ⟨L + 1, 160⟩]) (upd := [(r, rdB s s.length), (⟨L + 1, 160⟩, .rows 24 4 true false [pkV (getB (s.take 2)) (getB ((s.drop 2).take 2)) (getB ((s.drop 4).take 4)) (.sl ⟨L + 1, 289⟩ 0 N)]), (⟨L + 1, 289⟩, .rows 34 3 true true ((List.range N).map fun j => (ckOf s (pos j) (len j)).row))]) (f := 114) (fl := []) (cl := [.ptr ⟨L + 1, 288⟩ 0 0]) (by simp only [evalT, List.getD_cons_zero, List.getD_cons_succ]) rfl ⟨Tryz.f114, by kernel_rfl, by rfl, by kernel_rfl⟩ [none, none, none, none, some (.ptr ⟨L + 1, 160⟩ 0 0), none, none, none, none, none, none, none, none, none, none, none, none, none, none, none, none, none, none, none, none, none, none, none, none, none, none, none, none, none, none] ?_ ?_ ?_
 ·simp only [go_sem, subT, and_self]
 ·intro y h1 h2 h3 h4
  refine chunks1_ok (L := L + 1) (nx := 289) s (by omega) ⟨L + 1, 288⟩ r ⟨L + 1, 160⟩ (by simp) (.inl (by omega)) (.inr ⟨rfl, by simp⟩) (by simp [n2]) (by simp) (by simp [n1]) 140 true false (by simp [Tx.look, n2]) pos len N (by rw [hp0]; simp [Tx.look, n1, rdB]) (getB (s.take 2)) (getB ((s.drop 2).take 2)) (getB ((s.drop 4).take 4)) (by simp [Tx.look, n2, pkV]) hat hnx hend y ?_
  ·intro F4 i q nx3 hi hFd hFq hq
   obtain ⟨o4, p4, hFd, ho4⟩ := hFd
   subst ho4
   obtain ⟨rows, hrows⟩ : ∃ x, x = (List.range i).map fun j => (ckOf s (pos j) (len j)).row := ⟨_, rfl⟩
   have hrl : rows.length = i := by rw [hrows]; simp
   have hrs : ((List.range (i + 1)).map fun j => (ckOf s (pos j) (len j)).row) = rows ++ [(ckOf s (pos i) (len i)).row] := by rw [hrows, List.range_succ]; simp
   rw [hrs]
   rw [← hrows] at hFq
   obtain ⟨ck, hck⟩ : ∃ x, x = ckOf s (pos i) (len i) := ⟨_, rfl⟩
   rw [← hck]
   refine YCon.body (cxzOk (L + 3) y.l) (by rfl) (by rfl) (k := 1) (by rfl) (by simp) (by rw [h1]; rfl) (by rw [h1, h4]; simp) ?_
   intro F5 hF5 hF6
   have q1 := (hF5 ⟨L + 1, 160⟩ (by simp)).trans hFd
   have q2 := (hF5 ⟨L + 1 + 1, q⟩ (by simp)).trans hFq
   have z1 : ∀ k, ((⟨L + 2 + 1, k⟩ : Nm) = ⟨L + 1, 160⟩) = False := fun k => by simp
   have z2 : ∀ k, ((⟨L + 1, 160⟩ : Nm) = ⟨L + 2 + 1, k⟩) = False := fun k => by simp
   have z3 : ∀ k, ((⟨L + 2 + 1, k⟩ : Nm) = ⟨L + 1 + 1, q⟩) = False := fun k => by simp
   have z4 : ∀ k, ((⟨L + 1 + 1, q⟩ : Nm) = ⟨L + 2 + 1, k⟩) = False := fun k => by simp
   have z5 : ((⟨L + 1 + 1, q⟩ : Nm) = ⟨L + 1, 160⟩) = False := by simp
   have z6 : ((⟨L + 1, 160⟩ : Nm) = ⟨L + 1 + 1, q⟩) = False := by simp
   have z7 : ∀ k, ((⟨L + 1 + 1, q⟩ : Nm) == ⟨L + 2 + 1, k⟩) = false := fun k => by simp
   rw [h1, h2, h3, h4]
   simp only [setPs, List.zip_cons_cons, List.zip_nil_right, q1, q2, z2, z3, z4, z6, z7, cxz, pkV, Ckx.row, hrl, Nat.add_assoc, go_sem, meths]
   refine ⟨⟨by omega, by omega⟩, rfl, _, Sub.refl _ _ _, [192], rfl, by simp, ?_, ?_⟩
   ·refine ⟨by simp, ?_, by simp, ?_, Nat.le_refl _, ?_, trivial⟩
    ·rw [kp_out (.inl (by simp))]
     exact .ren (by simp [Tx.look, z2, z6]; rfl) (by simp [rowsNm, nmA, nmAL, Dn]) (by simp [Tx.rn, Tx.rnL, sg, List.idxOf, List.findIdx, List.findIdx.go])
    ·rw [kp_out (.inr (.inl (by simpa using hq)))]
     exact BN_dead
    ·rw [kp_at0 (by simp)]
     exact .pure (by simp [Tx.look, z3])
   ·simp [UpdAll, keys]
 have hrows : ((List.range N).map fun j => (ckOf s (pos j) (len j)).row) = p.cs.map Ckx.row := by rw [hpk]; simp
 have hcl : p.cs.length = N := by rw [hpk]; simp
 have hprow : p.row = [.int .i64 (getB (s.take 2)), .int .i64 (getB ((s.drop 2).take 2)), .int .i64 (getB ((s.drop 4).take 4)), .fs 3 (p.cs.map Ckx.row)] := by rw [hpk]; rfl
 have hbl : ∀ c ∈ p.cs, c.bd.length ≤ 1000000 := by
  intro c hcm
  rw [hpk] at hcm
  obtain ⟨j, _, rfl⟩ := List.mem_map.1 hcm
  simp only [ckOf, List.length_take, List.length_drop]; omega
 have hchk := fun F L nx => pkCheck_ok (F := F) (L := L) (nx := nx) p (by omega) hbl
 rw [hok, if_pos rfl] at hchk
 have hsm := fun F L nx => cSum_ok (F := F) (L := L) (nx := nx) s h16 (by omega)
 rw [hsum] at hsm
 rw [hrows]
 simp only [pkV, rdB, n1, n2, go_sem]
 refine ⟨by kernel_rfl, ?_⟩
 refine CallVC.gen (args2 := [.agg p.row]) (by rw [hprow]; simp [Wk, WkL, n2, List.take_of_length_le, hcl]) (hchk _ _ _) ?_
 rw [hprow]
 simp only [wkNL, wkN, unown, n2, o1, e1, kc, go_sem]
 have hss : (s == s) = true := by simp
 refine CallVC.same (hsm _ _ _) ?_
 simp only [hss, o1, e1, kc, go_sem]
 refine CallVC.same must_ok ?_
 simp only [n2, go_sem]
 refine ⟨okDyn_num (fun x => if x = nc then 1 else x.i) (by simp only [numF, List.map, o2, if_true, if_false]; kernel_rfl), ?_⟩
 exact PostF.of (p := True) (v0 := .agg [.int .i64 (getB (s.take 2)), .int .i64 (getB ((s.drop 2).take 2)), .int .i64 (getB ((s.drop 4).take 4)), .sl ⟨L + 1, 289⟩ 0 N]) (.inr rfl) (by simp only [resVal, resVals, resVal1, one, go_sem]) trivial (by simp [Wk, WkL, n2, List.take_of_length_le, hcl, Tx.look]) (by simp [wkN, wkNL]) (by simp [Tx.nf, nfl]) ⟨hr, BW_dead, trivial⟩ (by simp [UpdAll, keys])
end Go.Proofs.YtaacfnngodhecaaGreatDoor
end
section
namespace Go.Tx
theorem rangeK.die {C : Cx} {F0 : SF} {g : Operand} {ps : Array Tmp} {assign body : Code} {st : St} {Q : Exit → St → Prop} {f : FuncId} {fl cl : List PV} (hdi : C.dies = true) (hg : evalT st.t g = some (.fn (.func f) fl cl)) (hro : C.ro = none) (hfn : ∃ fn, C.P.funcs[f]? = some fn ∧ fn.body.isNone = false ∧ (fn.name == "runtime.NumGoroutine") = false)
  {upd : List (Nm × SBlk)} {rd : List Nm} (t0 : List (Option PV)) (ht : subT st.t t0) (hc : ∀ y : YRec, y.R.params = ps → y.R.assign = assign → y.R.body = body → y.t = t0 → IDCon C.P [y] C.ch f (fl ++ [.fn (.yield y.l) [] []] ++ cl) (look F0 st.H) C.L upd rd)
  (hq : C.dq ⟨st.t, updH st.H upd, st.nx⟩) : rangeK C F0 g ps assign body st Q := by
 unfold rangeK
 refine RangeVD.die hdi ?_
 unfold RangeDie
 rw [hg]
 obtain ⟨h1, h2⟩ := subT_spec ht
 refine ⟨hro, hfn, t0, upd, rd, ⟨h1.symm, fun i v hv => ?_⟩, hc, hq⟩
 simp only [TF, List.getD_eq_getElem?_getD] at hv ⊢
 cases hx : t0[i]? with
 | none => rw [hx] at hv; cases hv
 | some x => rw [hx] at hv; simp at hv; subst hv; rw [h2 i v hx]; rfl
end Go.Tx
end
section
namespace Go.Proofs.YtaacfnngodhecaaGreatDoor
open Go.Tx
set_option maxRecDepth 100000
set_option maxHeartbeats 16000000
theorem decode1_dieC {F : SF} {L : Nat} (r nc : Nm) (hr : r.l ≤ L) (hc : nc.l ≤ L) (hne : nc ≠ r) (s : List UInt8) (hl : s.length ≤ 1200) (h16 : 12 ≤ s.length) (oc : Bool) (hFr : F r = some (rdB s 0)) (hFc : F nc = some (.rows 9 1 oc true [[.str s]]))
  (pos len : Nat → Nat) (N : Nat) (hN : N ≤ 3000) (hp0 : pos 0 = 12) (hat : ∀ i, i < N → CkAt s (pos i) (len i)) (hnx : ∀ i, i < N → pos (i + 1) = ckNx (pos i) (len i)) (hno : CkNo s (pos N)) : DCon Tryz.prog chM 71 [.ptr r 0 0, .ptr nc 0 0] F L [(r, .dead)] [r, nc] := by
 refine DCon.body (cxOk (L + 1)) rfl rfl (fn := Tryz.f71) (c := Tryz.f71.body.getD .skip) (by kernel_rfl) (by rfl) (by kernel_rfl) rfl  (by simp; omega) ?_
 intro F3 hF1 hF2
 have kr : F3 r = some (rdB s 0) := (hF1 r (by simp)).trans hFr
 have kc : F3 nc = some (.rows 9 1 oc true [[.str s]]) := (hF1 nc (by simp)).trans hFc
 have n1 : ∀ k, (r = (⟨L + 1, k⟩ : Nm)) = False := nm_out hr
 have n2 : ∀ k, ((⟨L + 1, k⟩ : Nm) = r) = False := nm_out' hr
 have o1 : ∀ k, (nc = (⟨L + 1, k⟩ : Nm)) = False := nm_out hc
 have o2 : ∀ k, ((⟨L + 1, k⟩ : Nm) = nc) = False := nm_out' hc
 have e1 : (nc = r) = False := eq_false hne
 have e2 : (r = nc) = False := eq_false (Ne.symm hne)
 have h32 : r.l ≤ L + 1 := by omega
 simp only [Tryz.f71, cx, go_sem, meths]
 refine CallVD.live (CallVC.same (number_ok r h32 s 0 2 2 rfl (by omega) (by omega) (by omega) (by omega) (by simp [rdB, kr, n1])) ?_)
 simp only [rdB, n1, go_sem]
 refine CallVD.live (CallVC.same (number_ok r h32 s 2 2 2 rfl (by omega) (by omega) (by omega) (by omega) (by simp [rdB, n1])) ?_)
 simp only [rdB, n1, go_sem]
 refine CallVD.live (CallVC.same (number_ok r h32 s 4 4 4 rfl (by omega) (by omega) (by omega) (by omega) (by simp [rdB, n1])) ?_)
 simp only [rdB, n1, n2, go_sem]
 refine CallVD.live (CallVC.same (rtake_ok r h32 s 8 4 4 rfl (by omega) (by omega) (by simp [rdB, n1])) ?_)
 simp only [rdB, n1, go_sem]
 refine CallVD.live (CallVC.same (chunks_ok r h32 (by omega)) ?_)
 simp only [n2, go_sem]
 refine rangeK.die (rd := [⟨L + 1, 288⟩, r, ⟨L + 1, 160⟩]) (upd := [(r, .dead), (⟨L + 1, 160⟩, .dead)]) (f := 114) (fl := []) (cl := [.ptr ⟨L + 1, 288⟩ 0 0]) rfl (by simp only [evalT, List.getD_cons_zero, List.getD_cons_succ]) rfl ⟨Tryz.f114, by kernel_rfl, by rfl, by kernel_rfl⟩ [none, none, none, none, some (.ptr ⟨L + 1, 160⟩ 0 0), none, none, none, none, none, none, none, none, none, none, none, none, none, none, none, none, none, none, none, none, none, none, none, none, none, none, none, none, none, none] ?_ ?_ ?_
 ·simp only [go_sem, subT, and_self]
 ·intro y h1 h2 h3 h4
  refine chunks1_die (L := L + 1) s (by omega) ⟨L + 1, 288⟩ r ⟨L + 1, 160⟩ (by simp) (by omega) (by simp) (by simp [n2]) (by simp) (by simp [n1]) 140 true false (by simp [Tx.look, n2]) pos len N (by rw [hp0]; simp [Tx.look, n1, rdB]) (getB (s.take 2)) (getB ((s.drop 2).take 2)) (getB ((s.drop 4).take 4)) (by simp [Tx.look, n2, pkV]) hat hnx hno y ?_
  ·intro F4 i q nx3 hi hFd hFq hq
   obtain ⟨o4, p4, hFd, ho4⟩ := hFd
   subst ho4
   obtain ⟨rows, hrows⟩ : ∃ x, x = (List.range i).map fun j => (ckOf s (pos j) (len j)).row := ⟨_, rfl⟩
   have hrl : rows.length = i := by rw [hrows]; simp
   have hrs : ((List.range (i + 1)).map fun j => (ckOf s (pos j) (len j)).row) = rows ++ [(ckOf s (pos i) (len i)).row] := by rw [hrows, List.range_succ]; simp
   rw [hrs]
   rw [← hrows] at hFq
   obtain ⟨ck, hck⟩ : ∃ x, x = ckOf s (pos i) (len i) := ⟨_, rfl⟩
   rw [← hck]
   refine YCon.body (cxzOk (L + 3) y.l) (by rfl) (by rfl) (k := 1) (by rfl) (by simp) (by rw [h1]; rfl) (by rw [h1, h4]; simp) ?_
   intro F5 hF5 hF6
   have q1 := (hF5 ⟨L + 1, 160⟩ (by simp)).trans hFd
   have q2 := (hF5 ⟨L + 1 + 1, q⟩ (by simp)).trans hFq
   have z1 : ∀ k, ((⟨L + 2 + 1, k⟩ : Nm) = ⟨L + 1, 160⟩) = False := fun k => by simp
   have z2 : ∀ k, ((⟨L + 1, 160⟩ : Nm) = ⟨L + 2 + 1, k⟩) = False := fun k => by simp
   have z3 : ∀ k, ((⟨L + 2 + 1, k⟩ : Nm) = ⟨L + 1 + 1, q⟩) = False := fun k => by simp
   have z4 : ∀ k, ((⟨L + 1 + 1, q⟩ : Nm) = ⟨L + 2 + 1, k⟩) = False := fun k => by simp
   have z5 : ((⟨L + 1 + 1, q⟩ : Nm) = ⟨L + 1, 160⟩) = False := by simp
   have z6 : ((⟨L + 1, 160⟩ : Nm) = ⟨L + 1 + 1, q⟩) = False := by simp
   have z7 : ∀ k, ((⟨L + 1 + 1, q⟩ : Nm) == ⟨L + 2 + 1, k⟩) = false := fun k => by simp
   rw [h1, h2, h3, h4]
   simp only [setPs, List.zip_cons_cons, List.zip_nil_right, q1, q2, z2, z3, z4, z6, z7, cxz, pkV, Ckx.row, hrl, Nat.add_assoc, go_sem, meths]
   refine ⟨⟨by omega, by omega⟩, rfl, _, Sub.refl _ _ _, [192], rfl, by simp, ?_, ?_⟩
   ·refine ⟨by simp, ?_, by simp, ?_, Nat.le_refl _, ?_, trivial⟩
    ·rw [kp_out (.inl (by simp))]
     exact .ren (by simp [Tx.look, z2, z6]; rfl) (by simp [rowsNm, nmA, nmAL, Dn]) (by simp [Tx.rn, Tx.rnL, sg, List.idxOf, List.findIdx, List.findIdx.go])
    ·rw [kp_out (.inr (.inl (by simpa using hq)))]
     exact BN_dead
    ·rw [kp_at0 (by simp)]
     exact .pure (by simp [Tx.look, z3])
   ·simp [UpdAll, keys]
 ·exact .dead (ns := [r]) (by simpa using hr) (by simp [UpdAll, updH, setH, n1, n2])
theorem decode1_dieM {F : SF} {L : Nat} (r nc : Nm) (hr : r.l ≤ L) (hc : nc.l ≤ L) (hne : nc ≠ r) (s : List UInt8) (hl : s.length ≤ 1200) (h16 : 12 ≤ s.length) (oc : Bool) (hFr : F r = some (rdB s 0)) (hFc : F nc = some (.rows 9 1 oc true [[.str s]]))
  (pos len : Nat → Nat) (N : Nat) (hN : N ≤ 3000) (hp0 : pos 0 = 12) (hat : ∀ i, i < N → CkAt s (pos i) (len i)) (hnx : ∀ i, i < N → pos (i + 1) = ckNx (pos i) (len i)) (hend : pos N = s.length) (p : Pkx) (hpk : p = ⟨getB (s.take 2), getB ((s.drop 2).take 2), getB ((s.drop 4).take 4), (List.range N).map fun j => ckOf s (pos j) (len j)⟩)
  (hbad : p.ok = false ∨ (p.ok = true ∧ (sumS s == s) = false)) : DCon Tryz.prog chM 71 [.ptr r 0 0, .ptr nc 0 0] F L [(r, .dead)] [r, nc] := by
 refine DCon.body (cxOk (L + 1)) rfl rfl (fn := Tryz.f71) (c := Tryz.f71.body.getD .skip) (by kernel_rfl) (by rfl) (by kernel_rfl) rfl  (by simp; omega) ?_
 intro F3 hF1 hF2
 have kr : F3 r = some (rdB s 0) := (hF1 r (by simp)).trans hFr
 have kc : F3 nc = some (.rows 9 1 oc true [[.str s]]) := (hF1 nc (by simp)).trans hFc
 have n1 : ∀ k, (r = (⟨L + 1, k⟩ : Nm)) = False := nm_out hr
 have n2 : ∀ k, ((⟨L + 1, k⟩ : Nm) = r) = False := nm_out' hr
 have o1 : ∀ k, (nc = (⟨L + 1, k⟩ : Nm)) = False := nm_out hc
 have o2 : ∀ k, ((⟨L + 1, k⟩ : Nm) = nc) = False := nm_out' hc
 have e1 : (nc = r) = False := eq_false hne
 have e2 : (r = nc) = False := eq_false (Ne.symm hne)
 have h32 : r.l ≤ L + 1 := by omega
 simp only [Tryz.f71, cx, go_sem, meths]
 refine CallVD.live (CallVC.same (number_ok r h32 s 0 2 2 rfl (by omega) (by omega) (by omega) (by omega) (by simp [rdB, kr, n1])) ?_)
 simp only [rdB, n1, go_sem]
 refine CallVD.live (CallVC.same (number_ok r h32 s 2 2 2 rfl (by omega) (by omega) (by omega) (by omega) (by simp [rdB, n1])) ?_)
 simp only [rdB, n1, go_sem]
 refine CallVD.live (CallVC.same (number_ok r h32 s 4 4 4 rfl (by omega) (by omega) (by omega) (by omega) (by simp [rdB, n1])) ?_)
 simp only [rdB, n1, n2, go_sem]
 refine CallVD.live (CallVC.same (rtake_ok r h32 s 8 4 4 rfl (by omega) (by omega) (by simp [rdB, n1])) ?_)
 simp only [rdB, n1, go_sem]
 refine CallVD.live (CallVC.same (chunks_ok r h32 (by omega)) ?_)
 simp only [n2, go_sem]
 refine rangeK.intro (v := .tup []) (top := 290) (rd := [⟨L + 1, 288⟩, r, ⟨L + 1, 160⟩]) (upd := [(r, rdB s s.length), (⟨L + 1, 160⟩, .rows 24 4 true false [pkV (getB (s.take 2)) (getB ((s.drop 2).take 2)) (getB ((s.drop 4).take 4)) (.sl ⟨L + 1, 289⟩ 0 N)]), (⟨L + 1, 289⟩, .rows 34 3 true true ((List.range N).map fun j => (ckOf s (pos j) (len j)).row))]) (f := 114) (fl := []) (cl := [.ptr ⟨L + 1, 288⟩ 0 0]) (by simp only [evalT, List.getD_cons_zero, List.getD_cons_succ]) rfl ⟨Tryz.f114, by kernel_rfl, by rfl, by kernel_rfl⟩ [none, none, none, none, some (.ptr ⟨L + 1, 160⟩ 0 0), none, none, none, none, none, none, none, none, none, none, none, none, none, none, none, none, none, none, none, none, none, none, none, none, none, none, none, none, none, none] ?_ ?_ ?_
 ·simp only [go_sem, subT, and_self]
 ·intro y h1 h2 h3 h4
  refine chunks1_ok (L := L + 1) (nx := 289) s (by omega) ⟨L + 1, 288⟩ r ⟨L + 1, 160⟩ (by simp) (.inl (by omega)) (.inr ⟨rfl, by simp⟩) (by simp [n2]) (by simp) (by simp [n1]) 140 true false (by simp [Tx.look, n2]) pos len N (by rw [hp0]; simp [Tx.look, n1, rdB]) (getB (s.take 2)) (getB ((s.drop 2).take 2)) (getB ((s.drop 4).take 4)) (by simp [Tx.look, n2, pkV]) hat hnx hend y ?_
  ·intro F4 i q nx3 hi hFd hFq hq
   obtain ⟨o4, p4, hFd, ho4⟩ := hFd
   subst ho4
   obtain ⟨rows, hrows⟩ : ∃ x, x = (List.range i).map fun j => (ckOf s (pos j) (len j)).row := ⟨_, rfl⟩
   have hrl : rows.length = i := by rw [hrows]; simp
   have hrs : ((List.range (i + 1)).map fun j => (ckOf s (pos j) (len j)).row) = rows ++ [(ckOf s (pos i) (len i)).row] := by rw [hrows, List.range_succ]; simp
   rw [hrs]
   rw [← hrows] at hFq
   obtain ⟨ck, hck⟩ : ∃ x, x = ckOf s (pos i) (len i) := ⟨_, rfl⟩
   rw [← hck]
   refine YCon.body (cxzOk (L + 3) y.l) (by rfl) (by rfl) (k := 1) (by rfl) (by simp) (by rw [h1]; rfl) (by rw [h1, h4]; simp) ?_
   intro F5 hF5 hF6
   have q1 := (hF5 ⟨L + 1, 160⟩ (by simp)).trans hFd
   have q2 := (hF5 ⟨L + 1 + 1, q⟩ (by simp)).trans hFq
   have z1 : ∀ k, ((⟨L + 2 + 1, k⟩ : Nm) = ⟨L + 1, 160⟩) = False := fun k => by simp
   have z2 : ∀ k, ((⟨L + 1, 160⟩ : Nm) = ⟨L + 2 + 1, k⟩) = False := fun k => by simp
   have z3 : ∀ k, ((⟨L + 2 + 1, k⟩ : Nm) = ⟨L + 1 + 1, q⟩) = False := fun k => by simp
   have z4 : ∀ k, ((⟨L + 1 + 1, q⟩ : Nm) = ⟨L + 2 + 1, k⟩) = False := fun k => by simp
   have z5 : ((⟨L + 1 + 1, q⟩ : Nm) = ⟨L + 1, 160⟩) = False := by simp
   have z6 : ((⟨L + 1, 160⟩ : Nm) = ⟨L + 1 + 1, q⟩) = False := by simp
   have z7 : ∀ k, ((⟨L + 1 + 1, q⟩ : Nm) == ⟨L + 2 + 1, k⟩) = false := fun k => by simp
   rw [h1, h2, h3, h4]
   simp only [setPs, List.zip_cons_cons, List.zip_nil_right, q1, q2, z2, z3, z4, z6, z7, cxz, pkV, Ckx.row, hrl, Nat.add_assoc, go_sem, meths]
   refine ⟨⟨by omega, by omega⟩, rfl, _, Sub.refl _ _ _, [192], rfl, by simp, ?_, ?_⟩
   ·refine ⟨by simp, ?_, by simp, ?_, Nat.le_refl _, ?_, trivial⟩
    ·rw [kp_out (.inl (by simp))]
     exact .ren (by simp [Tx.look, z2, z6]; rfl) (by simp [rowsNm, nmA, nmAL, Dn]) (by simp [Tx.rn, Tx.rnL, sg, List.idxOf, List.findIdx, List.findIdx.go])
    ·rw [kp_out (.inr (.inl (by simpa using hq)))]
     exact BN_dead
    ·rw [kp_at0 (by simp)]
     exact .pure (by simp [Tx.look, z3])
   ·simp [UpdAll, keys]
 have hrows : ((List.range N).map fun j => (ckOf s (pos j) (len j)).row) = p.cs.map Ckx.row := by rw [hpk]; simp
 have hcl : p.cs.length = N := by rw [hpk]; simp
 have hprow : p.row = [.int .i64 (getB (s.take 2)), .int .i64 (getB ((s.drop 2).take 2)), .int .i64 (getB ((s.drop 4).take 4)), .fs 3 (p.cs.map Ckx.row)] := by rw [hpk]; rfl
 have hbl : ∀ c ∈ p.cs, c.bd.length ≤ 1000000 := by
  intro c hcm
  rw [hpk] at hcm
  obtain ⟨j, _, rfl⟩ := List.mem_map.1 hcm
  simp only [ckOf, List.length_take, List.length_drop]; omega
 have hchk := fun F L nx => pkCheck_ok (F := F) (L := L) (nx := nx) p (by omega) hbl
 have hsm := fun F L nx => cSum_ok (F := F) (L := L) (nx := nx) s h16 (by omega)
 rw [hrows]
 simp only [pkV, rdB, n1, n2, go_sem]
 refine RegVD.dieAt 9 [] rfl (by simp) rfl (by kernel_rfl) ?_
 simp only [n2, go_sem]
 rcases hbad with hA | ⟨hA, hB⟩
 ·simp only [hA, Bool.false_eq_true, if_false] at hchk
  have f1 : ((320 : Int) == 0) = false := rfl
  refine CallVC.gen (args2 := [.agg p.row]) (by rw [hprow]; simp [Wk, WkL, n2, List.take_of_length_le, hcl]) (hchk _ _ _) ?_
  rw [hprow]
  simp only [f1, wkNL, wkN, unown, n2, go_sem]
  refine dieX.same must_die ?_
  simp only [go_sem]
  refine ⟨okDyn_num (fun x => if x = nc then 1 else x.i) (by simp only [numF, List.map, o2, if_false]; kernel_rfl), ?_⟩
  exact fun nz => PostD.all (ns := [r]) rfl (by simpa using hr) (by simp [UpdAll, n2]) (by simp [keys])
 ·simp only [hA, if_true] at hchk
  refine CallVC.gen (args2 := [.agg p.row]) (by rw [hprow]; simp [Wk, WkL, n2, List.take_of_length_le, hcl]) (hchk _ _ _) ?_
  rw [hprow]
  simp only [wkNL, wkN, unown, n2, o1, e1, kc, go_sem]
  refine CallVC.same (hsm _ _ _) ?_
  simp only [hB, o1, e1, kc, go_sem]
  refine dieX.same must_die ?_
  simp only [go_sem]
  refine ⟨okDyn_num (fun x => if x = nc then 1 else x.i) (by simp only [numF, List.map, o2, if_true, if_false]; kernel_rfl), ?_⟩
  exact fun nz => PostD.all (ns := [r]) rfl (by simpa using hr) (by simp [UpdAll, n2]) (by simp [keys])
def lnAt (s : List UInt8) (p : Nat) : Nat := getB ((s.drop (p + 2)).take 2)
def ckGood (s : List UInt8) (p : Nat) : Bool := decide (p + 4 ≤ s.length) && (decide (4 ≤ lnAt s p) && (decide (p + lnAt s p + (4 - lnAt s p % 4) % 4 ≤ s.length) && ((s.drop (p + lnAt s p)).take ((4 - lnAt s p % 4) % 4)).all (· == 0)))
theorem ckGood_at {s : List UInt8} {p : Nat} (h : ckGood s p = true) : CkAt s p (lnAt s p) := by
 unfold ckGood at h
 simp only [Bool.and_eq_true, decide_eq_true_eq] at h
 exact ⟨h.1, rfl, h.2.1, h.2.2.1, h.2.2.2⟩
theorem ckGood_no {s : List UInt8} {p : Nat} (hp : p < s.length) (h : ckGood s p = false) : CkNo s p := by
 refine ⟨hp, ?_⟩
 by_cases h1 : p + 4 ≤ s.length
 ·refine .inr ⟨_, rfl, h1, ?_⟩
  show lnAt s p < 4 ∨ _
  by_cases h2 : 4 ≤ lnAt s p
  ·refine .inr ⟨h2, ?_⟩
   show s.length < p + lnAt s p + (4 - lnAt s p % 4) % 4 ∨ (p + lnAt s p + (4 - lnAt s p % 4) % 4 ≤ s.length ∧ ((s.drop (p + lnAt s p)).take ((4 - lnAt s p % 4) % 4)).all (· == 0) = false)
   by_cases h3 : p + lnAt s p + (4 - lnAt s p % 4) % 4 ≤ s.length
   ·refine .inr ⟨h3, ?_⟩
    unfold ckGood at h
    rw [decide_eq_true h1, decide_eq_true h2, decide_eq_true h3] at h
    simpa using h
   ·exact .inl (by omega)
  ·exact .inl (by omega)
 ·exact .inl (by omega)
def cksF (s : List UInt8) : Nat → Nat → Option (List Ckx)
 | 0, _ => none
 | f + 1, p => if p = s.length then some [] else if ckGood s p then (cksF s f (ckNx p (lnAt s p))).map (ckOf s p (lnAt s p) :: ·) else none
def posF (s : List UInt8) (p : Nat) : Nat → Nat
 | 0 => p
 | i + 1 => ckNx (posF s p i) (lnAt s (posF s p i))
theorem posF_shift (s : List UInt8) (p : Nat) : ∀ i, posF s p (i + 1) = posF s (ckNx p (lnAt s p)) i
 | 0 => rfl
 | i + 1 => by
  show ckNx (posF s p (i + 1)) (lnAt s (posF s p (i + 1))) = ckNx _ _
  rw [posF_shift s p i]
theorem cks_some {s : List UInt8} : ∀ {f p : Nat} {cs : List Ckx}, cksF s f p = some cs →
  (∀ i, i < cs.length → CkAt s (posF s p i) (lnAt s (posF s p i))) ∧ posF s p cs.length = s.length ∧ cs = (List.range cs.length).map fun j => ckOf s (posF s p j) (lnAt s (posF s p j))
 | 0, _, _, h => by cases h
 | f + 1, p, cs, h => by
  unfold cksF at h
  split at h
  ·rename_i he
   injection h with h; subst h
   exact ⟨fun i hi => by simp at hi, he, rfl⟩
  ·split at h
   ·rename_i hg
    cases hq : cksF s f (ckNx p (lnAt s p)) with
    | none => rw [hq] at h; cases h
    | some l =>
     rw [hq] at h
     simp only [Option.map_some, Option.some.injEq] at h
     subst h
     obtain ⟨h1, h2, h3⟩ := cks_some hq
     refine ⟨fun i hi => ?_, ?_, ?_⟩
     ·cases i with
      | zero => exact ckGood_at hg
      | succ i => rw [posF_shift]; exact h1 i (by simpa using hi)
     ·rw [List.length_cons, posF_shift]; exact h2
     ·rw [List.length_cons, List.range_succ_eq_map, List.map_cons, List.map_map]
      congr 1
      rw [h3]
      simp only [List.length_map, List.length_range]
      apply List.map_congr_left
      intro j _
      simp only [Function.comp, Nat.succ_eq_add_one, posF_shift]
   ·cases h
theorem cks_none {s : List UInt8} : ∀ {f p : Nat}, p ≤ s.length → s.length - p < f → cksF s f p = none → ∃ N, N ≤ f ∧ (∀ i, i < N → CkAt s (posF s p i) (lnAt s (posF s p i))) ∧ CkNo s (posF s p N)
 | 0, _, _, h, _ => by omega
 | f + 1, p, hp, hf, h => by
  unfold cksF at h
  split at h
  ·cases h
  ·rename_i hne
   split at h
   ·rename_i hg
    have ha := ckGood_at hg
    have h4 := ha.n4
    have hk := ha.hk
    obtain ⟨N, h1, h2, h3⟩ := cks_none (f := f) (p := ckNx p (lnAt s p)) hk (by unfold ckNx; omega) (by
     cases hq : cksF s f (ckNx p (lnAt s p)) with
     | none => rfl
     | some l => rw [hq] at h; cases h)
    refine ⟨N + 1, by omega, fun i hi => ?_, by rw [posF_shift]; exact h3⟩
    cases i with
    | zero => exact ha
    | succ i => rw [posF_shift]; exact h2 i (by omega)
   ·rename_i hg
    exact ⟨0, by omega, fun i hi => by omega, (show CkNo s p from ckGood_no (by omega) (by simpa using hg))⟩
def pkG (s : List UInt8) (cs : List Ckx) : Pkx := ⟨getB (s.take 2), getB ((s.drop 2).take 2), getB ((s.drop 4).take 4), cs⟩
def decG (s : List UInt8) : Option Pkx := (cksF s 2000 12).bind fun cs => if (pkG s cs).ok && sumS s == s then some (pkG s cs) else none
theorem Pkx.nf (p : Pkx) : nfl p.row = true := by simp [Pkx.row, nfl, Tx.nf]
theorem decode_ok {F : SF} {L nx : Nat} (s : List UInt8) (p : Pkx) (h1 : s.length ≤ 1200) (h2 : 16 ≤ s.length) (hd : decG s = some p) : Con Tryz.prog 17 [.str s] F L nx nx (.tup [.agg p.row, .int .i64 0]) [] [] := by
 unfold decG at hd
 cases hcs : cksF s 2000 12 with
 | none => rw [hcs] at hd; cases hd
 | some cs =>
  rw [hcs] at hd
  simp only [Option.bind_some] at hd
  split at hd
  ·rename_i hok
   injection hd with hd
   simp only [Bool.and_eq_true] at hok
   obtain ⟨q1, q2, q3⟩ := cks_some hcs
   have hp : p = ⟨getB (s.take 2), getB ((s.drop 2).take 2), getB ((s.drop 4).take 4), (List.range cs.length).map fun j => ckOf s (posF s 12 j) (lnAt s (posF s 12 j))⟩ := by rw [← q3, ← hd]; rfl
   have hpo : p.ok = true := by rw [← hd]; exact hok.1
   have hN : cs.length ≤ 40 := by
    have := hpo
    unfold Pkx.ok Pkx.hd at this
    simp only [Bool.and_eq_true, decide_eq_true_eq] at this
    have e : p.cs.length = cs.length := by rw [hp]; simp
    omega
   refine bdy Tryz.f17 ?_
   intro F3 hF1 hF2
   have f1 : decide ((s.length : Int) > 1200) = false := dF (by omega)
   have f1' : decide ((1200 : Int) < s.length) = false := dF (by omega)
   have f2 : decide ((s.length : Int) < 16) = false := dF (by omega)
   simp only [Tryz.f17, cx, f1, f2, go_sem, meths]
   repeat refine sd2 ?_
   refine CallVC.same (readSctp_ok s 71 [] [.ptr ⟨L + 1, 0⟩ 0 0] p.row rfl p.nf [⟨L + 1, 0⟩] (by simp) (fun F' r nx3 hF' hr hFr => ?_)) ?_
   ·refine (decode1_ok (L := L + 1 + 2) r ⟨L + 1, 0⟩ (by omega) (by simp) (by rintro rfl; simp at hr) s h1 (by omega) true hFr ((hF' _ (by simp)).trans (by simp [Tx.look])) (posF s 12) (fun i => lnAt s (posF s 12 i)) cs.length (by omega) rfl q1 (fun i _ => rfl) q2 p hp hpo (eq_of_beq hok.2))
   simp only [Pkx.row, go_sem]
   repeat refine sd2 ?_
   exact PostF.rs (v0 := .tup [.agg [.int .i64 p.fr, .int .i64 p.tt, .int .i64 p.tg, .fs 3 (p.cs.map Ckx.row)], .int .i64 0]) (.inr rfl)
  ·cases hd
theorem cks_len {s : List UInt8} : ∀ {f p : Nat} {cs : List Ckx}, cksF s f p = some cs → cs.length ≤ f
 | 0, _, _, h => by cases h
 | f + 1, p, cs, h => by
  unfold cksF at h
  split at h
  ·injection h with h; subst h; simp
  ·split at h
   ·cases hq : cksF s f (ckNx p (lnAt s p)) with
    | none => rw [hq] at h; cases h
    | some l =>
     rw [hq] at h
     simp only [Option.map_some, Option.some.injEq] at h
     subst h
     have := cks_len hq
     simp; omega
   ·cases h
theorem decodeNo_ok {F : SF} {L nx : Nat} (s : List UInt8) (h1 : s.length ≤ 1200) (h2 : 16 ≤ s.length) (hd : decG s = none) : Con Tryz.prog 17 [.str s] F L nx nx (.tup [.agg [.int .i64 0, .int .i64 0, .int .i64 0, .nilS], .int .i64 5]) [] [] := by
 refine bdy Tryz.f17 ?_
 intro F3 hF1 hF2
 have f1 : decide ((s.length : Int) > 1200) = false := dF (by omega)
 have f1' : decide ((1200 : Int) < s.length) = false := dF (by omega)
 have f2 : decide ((s.length : Int) < 16) = false := dF (by omega)
 simp only [Tryz.f17, cx, f1, f2, go_sem, meths]
 repeat refine sd2 ?_
 refine CallVC.same (readSctp_die s 71 [] [.ptr ⟨L + 1, 0⟩ 0 0] [⟨L + 1, 0⟩] (by simp) (fun F' r hF' hr hFr => ?_)) ?_
 ·have kc : F' ⟨L + 1, 0⟩ = some (.rows 9 1 true true [[.str s]]) := (hF' _ (by simp)).trans (by simp [Tx.look])
  have hne : (⟨L + 1, 0⟩ : Nm) ≠ r := by rintro rfl; simp at hr
  unfold decG at hd
  cases hcs : cksF s 2000 12 with
  | none =>
   obtain ⟨N, q1, q2, q3⟩ := cks_none (by omega) (by omega) hcs
   exact decode1_dieC (L := L + 1 + 2) r ⟨L + 1, 0⟩ (by omega) (by simp) hne s h1 (by omega) true hFr kc (posF s 12) (fun i => lnAt s (posF s 12 i)) N (by omega) rfl q2 (fun i _ => rfl) q3
  | some cs =>
   rw [hcs] at hd
   simp only [Option.bind_some] at hd
   obtain ⟨q1, q2, q3⟩ := cks_some hcs
   have q4 := cks_len hcs
   refine decode1_dieM (L := L + 1 + 2) r ⟨L + 1, 0⟩ (by omega) (by simp) hne s h1 (by omega) true hFr kc (posF s 12) (fun i => lnAt s (posF s 12 i)) cs.length (by omega) rfl q1 (fun i _ => rfl) q2 (pkG s cs) (by unfold pkG; rw [← q3]) ?_
   split at hd
   ·cases hd
   ·rename_i hb
    cases hk : (pkG s cs).ok with
    | false => exact .inl rfl
    | true =>
     rw [hk] at hb
     exact .inr ⟨rfl, by simpa using hb⟩
 simp only [go_sem]
 repeat refine sd2 ?_
 exact PostF.rs (v0 := .tup [.agg [.int .i64 0, .int .i64 0, .int .i64 0, .nilS], .int .i64 5]) (.inr rfl)
theorem decodeLong_ok {F : SF} {L nx : Nat} (s : List UInt8) (h1 : 1200 < s.length) : Con Tryz.prog 17 [.str s] F L nx nx (.tup [.agg [.int .i64 0, .int .i64 0, .int .i64 0, .nilS], .int .i64 3]) [] [] := by
 refine bdy Tryz.f17 ?_
 intro F3 hF1 hF2
 have f1 : decide ((s.length : Int) > 1200) = true := dT (by omega)
 have f1' : decide ((1200 : Int) < s.length) = true := dT (by omega)
 simp only [Tryz.f17, cx, f1, go_sem, meths]
 repeat refine sd2 ?_
 exact PostF.rs (v0 := .tup [.agg [.int .i64 0, .int .i64 0, .int .i64 0, .nilS], .int .i64 3]) (.inr rfl)
theorem decodeShort_ok {F : SF} {L nx : Nat} (s : List UInt8) (h1 : s.length < 16) : Con Tryz.prog 17 [.str s] F L nx nx (.tup [.agg [.int .i64 0, .int .i64 0, .int .i64 0, .nilS], .int .i64 7]) [] [] := by
 refine bdy Tryz.f17 ?_
 intro F3 hF1 hF2
 have f1 : decide ((s.length : Int) > 1200) = false := dF (by omega)
 have f1' : decide ((1200 : Int) < s.length) = false := dF (by omega)
 have f2 : decide ((s.length : Int) < 16) = true := dT (by omega)
 simp only [Tryz.f17, cx, f1, f2, go_sem, meths]
 repeat refine sd2 ?_
 exact PostF.rs (v0 := .tup [.agg [.int .i64 0, .int .i64 0, .int .i64 0, .nilS], .int .i64 7]) (.inr rfl)
end Go.Proofs.YtaacfnngodhecaaGreatDoor
end
