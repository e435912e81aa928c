/- Lemmas for the walk: WK2, WC1, WC2, WC3, WC4, WC5, WC6, WC7, WC8, WC0, WC10, WC12. -/
import Derived.Test.YtaacfnngodhecaaGreatDoorP11
import Derived.Test.YtaacfnngodhecaaGreatDoorTxTab
import Derived.Test.YtaacfnngodhecaaGreatDoorP09
set_option linter.all false
section
namespace Go.Proofs.YtaacfnngodhecaaGreatDoor
open Go.Tx
set_option maxRecDepth 100000
set_option maxHeartbeats 1000000
mutual
theorem nmA_nf {D : Nm → Prop} : ∀ {v : PV}, nf v = true → nmA D v
 | .bool _, _ => trivial
 | .int _ _, _ => trivial
 | .str _, _ => trivial
 | .nilP, _ => trivial
 | .nilS, _ => trivial
 | .nilM, _ => trivial
 | .nilF, _ => trivial
 | .nilI, _ => trivial
 | .ptr _ _ _, h => by simp [nf] at h
 | .sl _ _ _, h => by simp [nf] at h
 | .mp _, h => by simp [nf] at h
 | .fp _ _ _ _, _ => trivial
 | .fs _ _, _ => trivial
 | .fm _ _, _ => trivial
 | .fn _ x y, h => by simp only [nf, Bool.and_eq_true] at h; simp only [nmA]; exact ⟨nmAL_nfl h.1, nmAL_nfl h.2⟩
 | .ifc _ v, h => by simp only [nf] at h; simp only [nmA]; exact nmA_nf h
 | .agg l, h => by simp only [nf] at h; simp only [nmA]; exact nmAL_nfl h
 | .tup l, h => by simp only [nf] at h; simp only [nmA]; exact nmAL_nfl h
theorem nmAL_nfl {D : Nm → Prop} : ∀ {l : List PV}, nfl l = true → nmAL D l
 | [], _ => trivial
 | v :: l, h => by simp only [nfl, Bool.and_eq_true] at h; simp only [nmAL]; exact ⟨nmA_nf h.1, nmAL_nfl h.2⟩
end
mutual
theorem rn_nf {σ : Nm → Nm} : ∀ {v : PV}, nf v = true → Tx.rn σ v = v
 | .bool _, _ => rfl
 | .int _ _, _ => rfl
 | .str _, _ => rfl
 | .nilP, _ => rfl
 | .nilS, _ => rfl
 | .nilM, _ => rfl
 | .nilF, _ => rfl
 | .nilI, _ => rfl
 | .ptr _ _ _, h => by simp [nf] at h
 | .sl _ _ _, h => by simp [nf] at h
 | .mp _, h => by simp [nf] at h
 | .fp _ _ _ _, _ => rfl
 | .fs _ _, _ => rfl
 | .fm _ _, _ => rfl
 | .fn _ x y, h => by simp only [nf, Bool.and_eq_true] at h; simp only [Tx.rn]; rw [rnL_nfl h.1, rnL_nfl h.2]
 | .ifc _ v, h => by simp only [nf] at h; simp only [Tx.rn]; rw [rn_nf h]
 | .agg l, h => by simp only [nf] at h; simp only [Tx.rn]; rw [rnL_nfl h]
 | .tup l, h => by simp only [nf] at h; simp only [Tx.rn]; rw [rnL_nfl h]
theorem rnL_nfl {σ : Nm → Nm} : ∀ {l : List PV}, nfl l = true → Tx.rnL σ l = l
 | [], _ => rfl
 | v :: l, h => by simp only [nfl, Bool.and_eq_true] at h; simp only [Tx.rnL]; rw [rn_nf h.1, rnL_nfl h.2]
end
def RdOk (g : FuncId) (xs ys : List PV) (s : List UInt8) (v : PV) (F : SF) (L : Nat) (rds : List Nm) : Prop :=
 ∀ (F' : SF) (r : Nm) (nx : Nat), (∀ n ∈ rds, F' n = F n) → r.l = L + 2 → F' r = some (rdB s 0) → Con Tryz.prog g (xs ++ [.ptr r 0 0] ++ ys) F' (L + 2) nx nx v [(r, .dead)] (r :: rds)
def RdDie (g : FuncId) (xs ys : List PV) (s : List UInt8) (F : SF) (L : Nat) (rds : List Nm) : Prop :=
 ∀ (F' : SF) (r : Nm), (∀ n ∈ rds, F' n = F n) → r.l = L + 2 → F' r = some (rdB s 0) → DCon Tryz.prog chM g (xs ++ [.ptr r 0 0] ++ ys) F' (L + 2) [(r, .dead)] (r :: rds)
theorem readSctp_ok {F : SF} {L nx : Nat} (s : List UInt8) (g : FuncId) (xs ys : List PV) (l : List PV) (hl : l.length = 4) (hnf : nfl l = true) (rds : List Nm) (hrd : ∀ n ∈ rds, n.l ≤ L) (hg : RdOk g xs ys s (.agg l) F L rds) :
  Con Tryz.prog 70 [.str s, .fn (.func g) xs ys] F L nx nx (.tup [.agg l, .int .i64 0]) [] rds := by
 refine Con.catch (k := 0) (cxOk (L + 1)) rfl rfl rfl (fn := Tryz.f70) (f := 70) (g := 111) (gn := Tryz.f111) (ch := chM) (u := .returning) (u' := .returning) (t1 := [some (.str s), some (.fn (.func g) xs ys), some undefP, some undefP, some (.ptr ⟨L + 1, 0⟩ 0 0), some (.ptr ⟨L + 1, 32⟩ 0 0), some undefP, some undefP, some undefP, some undefP, some undefP, some undefP, some undefP]) (H1 := [(⟨L + 1, 0⟩, .rows 24 4 true true [[.int .i64 0, .int .i64 0, .int .i64 0, .nilS]]), (⟨L + 1, 32⟩, .rows 38 1 true true [[.int .i64 0]])]) (n1 := 64) (cl := [.ptr ⟨L + 1, 0⟩ 0 0, .ptr ⟨L + 1, 32⟩ 0 0]) (updB := [(⟨L + 1, 0⟩, .rows 24 4 true true [l]), (⟨L + 1, 32⟩, .rows 38 1 true true [[.int .i64 0]])]) (updc := []) (rs := [(4, ⟨L + 1, 0⟩, 0, 0), (5, ⟨L + 1, 32⟩, 0, 0)]) (rdc := [])
  (by kernel_rfl) (by rfl) (by kernel_rfl) rfl hrd rfl rfl rfl rfl rfl rfl (by kernel_rfl) (by kernel_rfl) (by kernel_rfl) (by simp) (by kernel_rfl) ?_ ?_ ?_ ?_ ?_ ?_ ?_ rfl ?_
 ·intro F3 hF1 hF2
  simp only [cx, go_sem, meths]
  first | exact ⟨rfl, rfl, rfl⟩ | rfl | simp [undefP]
 ·simp
 ·rfl
 ·simp
 ·simp [TF]
 ·intro F3 B hF1 hF2
  have q1 : ∀ k, ((⟨L + 2, k⟩ : Nm) = ⟨L + 1, 0⟩) = False := fun k => by simp
  have q2 : ∀ k, ((⟨L + 2, k⟩ : Nm) = ⟨L + 1, 32⟩) = False := fun k => by simp
  have q3 : ∀ k, ((⟨L + 1, 0⟩ : Nm) = ⟨L + 2, k⟩) = False := fun k => by simp
  have q4 : ∀ k, ((⟨L + 1, 32⟩ : Nm) = ⟨L + 2, k⟩) = False := fun k => by simp
  simp only [cx, go_sem, meths]
  refine CallVD.live (CallVC.same (hg _ ⟨L + 2, 128⟩ _ ?_ rfl ?_) ?_)
  ·intro n hn
   have := hrd n hn
   have e1 : n ≠ ⟨L + 2, 128⟩ := by rintro rfl; simp at this; omega
   have e2 : n ≠ ⟨L + 1, 0⟩ := by rintro rfl; simp at this; omega
   have e3 : n ≠ ⟨L + 1, 32⟩ := by rintro rfl; simp at this; omega
   simp [e1, e2, e3, hF1 n hn]
  ·simp [rdB]
  simp only [q3, q4, hl, hnf, go_sem]
  repeat refine sd1 ?_
  refine ⟨.inr trivial, ⟨⟨⟨?_, ?_, ?_, ?_, trivial⟩, ?_⟩, rfl, ?_⟩⟩
  ·simp
  ·rw [kp_nil]; exact .pure (by simp [Tx.look])
  ·simp
  ·rw [kp_nil]; exact .pure (by simp [Tx.look])
  ·simp [UpdAll, keys]
  ·simp [TF]
 ·intro F3 hF1 hF2
  exact readSctp1_idle _ _
 ·intro F3 hF1 hF2
  refine PostN.val [] (.inr rfl) (by simp) (p := True) (v0 := .tup [.agg l, .int .i64 0]) ?_ trivial ?_ ?_ trivial ?_
  ·simp only [Tryz.f70, cx, rsT, resVal, resVals, resVal1, one, go_sem, meths]
  ·simp only [nmA, nmAL]; exact ⟨nmAL_nfl hnf, trivial, trivial⟩
  ·simp only [Tx.rn, Tx.rnL]; rw [rnL_nfl hnf]
  ·simp [UpdAll, keys, updH, setH]
theorem readSctp_die {F : SF} {L nx : Nat} (s : List UInt8) (g : FuncId) (xs ys : List PV) (rds : List Nm) (hrd : ∀ n ∈ rds, n.l ≤ L) (hg : RdDie g xs ys s F L rds) :
  Con Tryz.prog 70 [.str s, .fn (.func g) xs ys] F L nx nx (.tup [.agg [.int .i64 0, .int .i64 0, .int .i64 0, .nilS], .int .i64 5]) [] rds := by
 refine Con.catch (k := 0) (cxOk (L + 1)) rfl rfl rfl (fn := Tryz.f70) (f := 70) (g := 111) (gn := Tryz.f111) (ch := chM) (u := .panicking chM) (u' := .panicking chR) (t1 := [some (.str s), some (.fn (.func g) xs ys), some undefP, some undefP, some (.ptr ⟨L + 1, 0⟩ 0 0), some (.ptr ⟨L + 1, 32⟩ 0 0), some undefP, some undefP, some undefP, some undefP, some undefP, some undefP, some undefP]) (H1 := [(⟨L + 1, 0⟩, .rows 24 4 true true [[.int .i64 0, .int .i64 0, .int .i64 0, .nilS]]), (⟨L + 1, 32⟩, .rows 38 1 true true [[.int .i64 0]])]) (n1 := 64) (cl := [.ptr ⟨L + 1, 0⟩ 0 0, .ptr ⟨L + 1, 32⟩ 0 0]) (updB := []) (updc := [(⟨L + 1, 0⟩, .rows 24 4 true true [[.int .i64 0, .int .i64 0, .int .i64 0, .nilS]]), (⟨L + 1, 32⟩, .rows 38 1 true true [[.int .i64 5]])]) (rs := [(4, ⟨L + 1, 0⟩, 0, 0), (5, ⟨L + 1, 32⟩, 0, 0)]) (rdc := [⟨L + 1, 0⟩, ⟨L + 1, 32⟩])
  (by kernel_rfl) (by rfl) (by kernel_rfl) rfl hrd rfl rfl rfl rfl rfl rfl (by kernel_rfl) (by kernel_rfl) (by kernel_rfl) (by simp) (by kernel_rfl) ?_ ?_ ?_ ?_ ?_ ?_ ?_ rfl ?_
 ·intro F3 hF1 hF2
  simp only [cx, go_sem, meths]
  first | exact ⟨rfl, rfl, rfl⟩ | rfl | simp [undefP]
 ·simp
 ·rfl
 ·simp
 ·simp [TF]
 ·intro F3 B hF1 hF2
  have q1 : ∀ k, ((⟨L + 2, k⟩ : Nm) = ⟨L + 1, 0⟩) = False := fun k => by simp
  have q2 : ∀ k, ((⟨L + 2, k⟩ : Nm) = ⟨L + 1, 32⟩) = False := fun k => by simp
  have q3 : ∀ k, ((⟨L + 1, 0⟩ : Nm) = ⟨L + 2, k⟩) = False := fun k => by simp
  have q4 : ∀ k, ((⟨L + 1, 32⟩ : Nm) = ⟨L + 2, k⟩) = False := fun k => by simp
  simp only [cx, go_sem, meths]
  refine CallVD.same rfl (hg _ ⟨L + 2, 128⟩ ?_ rfl ?_) ?_
  ·intro n hn
   have := hrd n hn
   have e1 : n ≠ ⟨L + 2, 128⟩ := by rintro rfl; simp at this; omega
   have e2 : n ≠ ⟨L + 1, 0⟩ := by rintro rfl; simp at this; omega
   have e3 : n ≠ ⟨L + 1, 32⟩ := by rintro rfl; simp at this; omega
   simp [Tx.look, e1, e2, e3, hF1 n hn]
  ·simp [Tx.look, rdB]
  ·exact ⟨⟨trivial, by simp [UpdAll, keys, updH, setH]⟩, rfl, by simp [TF]⟩
 ·intro F3 hF1 hF2
  exact readSctp1_die ⟨L + 1, 0⟩ ⟨L + 1, 32⟩ (by simp) (by simp) (by simp) (by simp [Tx.look, SF.upd]) (by simp [Tx.look, SF.upd])
 ·intro F3 hF1 hF2
  refine PostN.val [] (.inr rfl) (by simp) (p := True) (v0 := .tup [.agg [.int .i64 0, .int .i64 0, .int .i64 0, .nilS], .int .i64 5]) ?_ trivial ?_ ?_ trivial ?_
  ·simp only [Tryz.f70, cx, rsT, resVal, resVals, resVal1, one, go_sem, meths]
  ·simp [nmA, nmAL]
  ·simp [Tx.rn, Tx.rnL]
  ·simp [UpdAll, keys, updH, setH]
theorem readData_ok {F : SF} {L nx : Nat} (s : List UInt8) (g : FuncId) (xs ys : List PV) (l : List PV) (hl : l.length = 8) (hnf : nfl l = true) (rds : List Nm) (hrd : ∀ n ∈ rds, n.l ≤ L) (hg : RdOk g xs ys s (.agg l) F L rds) :
  Con Tryz.prog 119 [.str s, .fn (.func g) xs ys] F L nx nx (.tup [.agg l, .int .i64 0]) [] rds := by
 refine Con.catch (k := 0) (cxOk (L + 1)) rfl rfl rfl (fn := Tryz.f119) (f := 119) (g := 153) (gn := Tryz.f153) (ch := chM) (u := .returning) (u' := .returning) (t1 := [some (.str s), some (.fn (.func g) xs ys), some undefP, some undefP, some (.ptr ⟨L + 1, 0⟩ 0 0), some (.ptr ⟨L + 1, 32⟩ 0 0), some undefP, some undefP, some undefP, some undefP, some undefP, some undefP, some undefP]) (H1 := [(⟨L + 1, 0⟩, .rows 51 8 true true [[.int .i64 0, .int .i64 0, .int .i64 0, .int .i64 0, .bool false, .bool false, .bool false, .str []]]), (⟨L + 1, 32⟩, .rows 38 1 true true [[.int .i64 0]])]) (n1 := 64) (cl := [.ptr ⟨L + 1, 0⟩ 0 0, .ptr ⟨L + 1, 32⟩ 0 0]) (updB := [(⟨L + 1, 0⟩, .rows 51 8 true true [l]), (⟨L + 1, 32⟩, .rows 38 1 true true [[.int .i64 0]])]) (updc := []) (rs := [(4, ⟨L + 1, 0⟩, 0, 0), (5, ⟨L + 1, 32⟩, 0, 0)]) (rdc := [])
  (by kernel_rfl) (by rfl) (by kernel_rfl) rfl hrd rfl rfl rfl rfl rfl rfl (by kernel_rfl) (by kernel_rfl) (by kernel_rfl) (by simp) (by kernel_rfl) ?_ ?_ ?_ ?_ ?_ ?_ ?_ rfl ?_
 ·intro F3 hF1 hF2
  simp only [cx, go_sem, meths]
  first | exact ⟨rfl, rfl, rfl⟩ | rfl | simp [undefP]
 ·simp
 ·rfl
 ·simp
 ·simp [TF]
 ·intro F3 B hF1 hF2
  have q1 : ∀ k, ((⟨L + 2, k⟩ : Nm) = ⟨L + 1, 0⟩) = False := fun k => by simp
  have q2 : ∀ k, ((⟨L + 2, k⟩ : Nm) = ⟨L + 1, 32⟩) = False := fun k => by simp
  have q3 : ∀ k, ((⟨L + 1, 0⟩ : Nm) = ⟨L + 2, k⟩) = False := fun k => by simp
  have q4 : ∀ k, ((⟨L + 1, 32⟩ : Nm) = ⟨L + 2, k⟩) = False := fun k => by simp
  simp only [cx, go_sem, meths]
  refine CallVD.live (CallVC.same (hg _ ⟨L + 2, 128⟩ _ ?_ rfl ?_) ?_)
  ·intro n hn
   have := hrd n hn
   have e1 : n ≠ ⟨L + 2, 128⟩ := by rintro rfl; simp at this; omega
   have e2 : n ≠ ⟨L + 1, 0⟩ := by rintro rfl; simp at this; omega
   have e3 : n ≠ ⟨L + 1, 32⟩ := by rintro rfl; simp at this; omega
   simp [e1, e2, e3, hF1 n hn]
  ·simp [rdB]
  simp only [q3, q4, hl, hnf, go_sem]
  repeat refine sd1 ?_
  refine ⟨.inr trivial, ⟨⟨⟨?_, ?_, ?_, ?_, trivial⟩, ?_⟩, rfl, ?_⟩⟩
  ·simp
  ·rw [kp_nil]; exact .pure (by simp [Tx.look])
  ·simp
  ·rw [kp_nil]; exact .pure (by simp [Tx.look])
  ·simp [UpdAll, keys]
  ·simp [TF]
 ·intro F3 hF1 hF2
  exact readData1_idle _ _
 ·intro F3 hF1 hF2
  refine PostN.val [] (.inr rfl) (by simp) (p := True) (v0 := .tup [.agg l, .int .i64 0]) ?_ trivial ?_ ?_ trivial ?_
  ·simp only [Tryz.f119, cx, rsT, resVal, resVals, resVal1, one, go_sem, meths]
  ·simp only [nmA, nmAL]; exact ⟨nmAL_nfl hnf, trivial, trivial⟩
  ·simp only [Tx.rn, Tx.rnL]; rw [rnL_nfl hnf]
  ·simp [UpdAll, keys, updH, setH]
theorem readData_die {F : SF} {L nx : Nat} (s : List UInt8) (g : FuncId) (xs ys : List PV) (rds : List Nm) (hrd : ∀ n ∈ rds, n.l ≤ L) (hg : RdDie g xs ys s F L rds) :
  Con Tryz.prog 119 [.str s, .fn (.func g) xs ys] F L nx nx (.tup [.agg [.int .i64 0, .int .i64 0, .int .i64 0, .int .i64 0, .bool false, .bool false, .bool false, .str []], .int .i64 5]) [] rds := by
 refine Con.catch (k := 0) (cxOk (L + 1)) rfl rfl rfl (fn := Tryz.f119) (f := 119) (g := 153) (gn := Tryz.f153) (ch := chM) (u := .panicking chM) (u' := .panicking chR) (t1 := [some (.str s), some (.fn (.func g) xs ys), some undefP, some undefP, some (.ptr ⟨L + 1, 0⟩ 0 0), some (.ptr ⟨L + 1, 32⟩ 0 0), some undefP, some undefP, some undefP, some undefP, some undefP, some undefP, some undefP]) (H1 := [(⟨L + 1, 0⟩, .rows 51 8 true true [[.int .i64 0, .int .i64 0, .int .i64 0, .int .i64 0, .bool false, .bool false, .bool false, .str []]]), (⟨L + 1, 32⟩, .rows 38 1 true true [[.int .i64 0]])]) (n1 := 64) (cl := [.ptr ⟨L + 1, 0⟩ 0 0, .ptr ⟨L + 1, 32⟩ 0 0]) (updB := []) (updc := [(⟨L + 1, 0⟩, .rows 51 8 true true [[.int .i64 0, .int .i64 0, .int .i64 0, .int .i64 0, .bool false, .bool false, .bool false, .str []]]), (⟨L + 1, 32⟩, .rows 38 1 true true [[.int .i64 5]])]) (rs := [(4, ⟨L + 1, 0⟩, 0, 0), (5, ⟨L + 1, 32⟩, 0, 0)]) (rdc := [⟨L + 1, 0⟩, ⟨L + 1, 32⟩])
  (by kernel_rfl) (by rfl) (by kernel_rfl) rfl hrd rfl rfl rfl rfl rfl rfl (by kernel_rfl) (by kernel_rfl) (by kernel_rfl) (by simp) (by kernel_rfl) ?_ ?_ ?_ ?_ ?_ ?_ ?_ rfl ?_
 ·intro F3 hF1 hF2
  simp only [cx, go_sem, meths]
  first | exact ⟨rfl, rfl, rfl⟩ | rfl | simp [undefP]
 ·simp
 ·rfl
 ·simp
 ·simp [TF]
 ·intro F3 B hF1 hF2
  have q1 : ∀ k, ((⟨L + 2, k⟩ : Nm) = ⟨L + 1, 0⟩) = False := fun k => by simp
  have q2 : ∀ k, ((⟨L + 2, k⟩ : Nm) = ⟨L + 1, 32⟩) = False := fun k => by simp
  have q3 : ∀ k, ((⟨L + 1, 0⟩ : Nm) = ⟨L + 2, k⟩) = False := fun k => by simp
  have q4 : ∀ k, ((⟨L + 1, 32⟩ : Nm) = ⟨L + 2, k⟩) = False := fun k => by simp
  simp only [cx, go_sem, meths]
  refine CallVD.same rfl (hg _ ⟨L + 2, 128⟩ ?_ rfl ?_) ?_
  ·intro n hn
   have := hrd n hn
   have e1 : n ≠ ⟨L + 2, 128⟩ := by rintro rfl; simp at this; omega
   have e2 : n ≠ ⟨L + 1, 0⟩ := by rintro rfl; simp at this; omega
   have e3 : n ≠ ⟨L + 1, 32⟩ := by rintro rfl; simp at this; omega
   simp [Tx.look, e1, e2, e3, hF1 n hn]
  ·simp [Tx.look, rdB]
  ·exact ⟨⟨trivial, by simp [UpdAll, keys, updH, setH]⟩, rfl, by simp [TF]⟩
 ·intro F3 hF1 hF2
  exact readData1_die ⟨L + 1, 0⟩ ⟨L + 1, 32⟩ (by simp) (by simp) (by simp) (by simp [Tx.look, SF.upd]) (by simp [Tx.look, SF.upd])
 ·intro F3 hF1 hF2
  refine PostN.val [] (.inr rfl) (by simp) (p := True) (v0 := .tup [.agg [.int .i64 0, .int .i64 0, .int .i64 0, .int .i64 0, .bool false, .bool false, .bool false, .str []], .int .i64 5]) ?_ trivial ?_ ?_ trivial ?_
  ·simp only [Tryz.f119, cx, rsT, resVal, resVals, resVal1, one, go_sem, meths]
  ·simp [nmA, nmAL]
  ·simp [Tx.rn, Tx.rnL]
  ·simp [UpdAll, keys, updH, setH]
theorem readInit_ok {F : SF} {L nx : Nat} (s : List UInt8) (g : FuncId) (xs ys : List PV) (l : List PV) (hl : l.length = 6) (hnf : nfl l = true) (rds : List Nm) (hrd : ∀ n ∈ rds, n.l ≤ L) (hg : RdOk g xs ys s (.agg l) F L rds) :
  Con Tryz.prog 121 [.str s, .fn (.func g) xs ys] F L nx nx (.tup [.agg l, .int .i64 0]) [] rds := by
 refine Con.catch (k := 0) (cxOk (L + 1)) rfl rfl rfl (fn := Tryz.f121) (f := 121) (g := 154) (gn := Tryz.f154) (ch := chM) (u := .returning) (u' := .returning) (t1 := [some (.str s), some (.fn (.func g) xs ys), some undefP, some undefP, some (.ptr ⟨L + 1, 0⟩ 0 0), some (.ptr ⟨L + 1, 32⟩ 0 0), some undefP, some undefP, some undefP, some undefP, some undefP, some undefP, some undefP]) (H1 := [(⟨L + 1, 0⟩, .rows 57 6 true true [[.int .i64 0, .int .i64 0, .int .i64 0, .int .i64 0, .int .i64 0, .str []]]), (⟨L + 1, 32⟩, .rows 38 1 true true [[.int .i64 0]])]) (n1 := 64) (cl := [.ptr ⟨L + 1, 0⟩ 0 0, .ptr ⟨L + 1, 32⟩ 0 0]) (updB := [(⟨L + 1, 0⟩, .rows 57 6 true true [l]), (⟨L + 1, 32⟩, .rows 38 1 true true [[.int .i64 0]])]) (updc := []) (rs := [(4, ⟨L + 1, 0⟩, 0, 0), (5, ⟨L + 1, 32⟩, 0, 0)]) (rdc := [])
  (by kernel_rfl) (by rfl) (by kernel_rfl) rfl hrd rfl rfl rfl rfl rfl rfl (by kernel_rfl) (by kernel_rfl) (by kernel_rfl) (by simp) (by kernel_rfl) ?_ ?_ ?_ ?_ ?_ ?_ ?_ rfl ?_
 ·intro F3 hF1 hF2
  simp only [cx, go_sem, meths]
  first | exact ⟨rfl, rfl, rfl⟩ | rfl | simp [undefP]
 ·simp
 ·rfl
 ·simp
 ·simp [TF]
 ·intro F3 B hF1 hF2
  have q1 : ∀ k, ((⟨L + 2, k⟩ : Nm) = ⟨L + 1, 0⟩) = False := fun k => by simp
  have q2 : ∀ k, ((⟨L + 2, k⟩ : Nm) = ⟨L + 1, 32⟩) = False := fun k => by simp
  have q3 : ∀ k, ((⟨L + 1, 0⟩ : Nm) = ⟨L + 2, k⟩) = False := fun k => by simp
  have q4 : ∀ k, ((⟨L + 1, 32⟩ : Nm) = ⟨L + 2, k⟩) = False := fun k => by simp
  simp only [cx, go_sem, meths]
  refine CallVD.live (CallVC.same (hg _ ⟨L + 2, 128⟩ _ ?_ rfl ?_) ?_)
  ·intro n hn
   have := hrd n hn
   have e1 : n ≠ ⟨L + 2, 128⟩ := by rintro rfl; simp at this; omega
   have e2 : n ≠ ⟨L + 1, 0⟩ := by rintro rfl; simp at this; omega
   have e3 : n ≠ ⟨L + 1, 32⟩ := by rintro rfl; simp at this; omega
   simp [e1, e2, e3, hF1 n hn]
  ·simp [rdB]
  simp only [q3, q4, hl, hnf, go_sem]
  repeat refine sd1 ?_
  refine ⟨.inr trivial, ⟨⟨⟨?_, ?_, ?_, ?_, trivial⟩, ?_⟩, rfl, ?_⟩⟩
  ·simp
  ·rw [kp_nil]; exact .pure (by simp [Tx.look])
  ·simp
  ·rw [kp_nil]; exact .pure (by simp [Tx.look])
  ·simp [UpdAll, keys]
  ·simp [TF]
 ·intro F3 hF1 hF2
  exact readInit1_idle _ _
 ·intro F3 hF1 hF2
  refine PostN.val [] (.inr rfl) (by simp) (p := True) (v0 := .tup [.agg l, .int .i64 0]) ?_ trivial ?_ ?_ trivial ?_
  ·simp only [Tryz.f121, cx, rsT, resVal, resVals, resVal1, one, go_sem, meths]
  ·simp only [nmA, nmAL]; exact ⟨nmAL_nfl hnf, trivial, trivial⟩
  ·simp only [Tx.rn, Tx.rnL]; rw [rnL_nfl hnf]
  ·simp [UpdAll, keys, updH, setH]
theorem readInit_die {F : SF} {L nx : Nat} (s : List UInt8) (g : FuncId) (xs ys : List PV) (rds : List Nm) (hrd : ∀ n ∈ rds, n.l ≤ L) (hg : RdDie g xs ys s F L rds) :
  Con Tryz.prog 121 [.str s, .fn (.func g) xs ys] F L nx nx (.tup [.agg [.int .i64 0, .int .i64 0, .int .i64 0, .int .i64 0, .int .i64 0, .str []], .int .i64 5]) [] rds := by
 refine Con.catch (k := 0) (cxOk (L + 1)) rfl rfl rfl (fn := Tryz.f121) (f := 121) (g := 154) (gn := Tryz.f154) (ch := chM) (u := .panicking chM) (u' := .panicking chR) (t1 := [some (.str s), some (.fn (.func g) xs ys), some undefP, some undefP, some (.ptr ⟨L + 1, 0⟩ 0 0), some (.ptr ⟨L + 1, 32⟩ 0 0), some undefP, some undefP, some undefP, some undefP, some undefP, some undefP, some undefP]) (H1 := [(⟨L + 1, 0⟩, .rows 57 6 true true [[.int .i64 0, .int .i64 0, .int .i64 0, .int .i64 0, .int .i64 0, .str []]]), (⟨L + 1, 32⟩, .rows 38 1 true true [[.int .i64 0]])]) (n1 := 64) (cl := [.ptr ⟨L + 1, 0⟩ 0 0, .ptr ⟨L + 1, 32⟩ 0 0]) (updB := []) (updc := [(⟨L + 1, 0⟩, .rows 57 6 true true [[.int .i64 0, .int .i64 0, .int .i64 0, .int .i64 0, .int .i64 0, .str []]]), (⟨L + 1, 32⟩, .rows 38 1 true true [[.int .i64 5]])]) (rs := [(4, ⟨L + 1, 0⟩, 0, 0), (5, ⟨L + 1, 32⟩, 0, 0)]) (rdc := [⟨L + 1, 0⟩, ⟨L + 1, 32⟩])
  (by kernel_rfl) (by rfl) (by kernel_rfl) rfl hrd rfl rfl rfl rfl rfl rfl (by kernel_rfl) (by kernel_rfl) (by kernel_rfl) (by simp) (by kernel_rfl) ?_ ?_ ?_ ?_ ?_ ?_ ?_ rfl ?_
 ·intro F3 hF1 hF2
  simp only [cx, go_sem, meths]
  first | exact ⟨rfl, rfl, rfl⟩ | rfl | simp [undefP]
 ·simp
 ·rfl
 ·simp
 ·simp [TF]
 ·intro F3 B hF1 hF2
  have q1 : ∀ k, ((⟨L + 2, k⟩ : Nm) = ⟨L + 1, 0⟩) = False := fun k => by simp
  have q2 : ∀ k, ((⟨L + 2, k⟩ : Nm) = ⟨L + 1, 32⟩) = False := fun k => by simp
  have q3 : ∀ k, ((⟨L + 1, 0⟩ : Nm) = ⟨L + 2, k⟩) = False := fun k => by simp
  have q4 : ∀ k, ((⟨L + 1, 32⟩ : Nm) = ⟨L + 2, k⟩) = False := fun k => by simp
  simp only [cx, go_sem, meths]
  refine CallVD.same rfl (hg _ ⟨L + 2, 128⟩ ?_ rfl ?_) ?_
  ·intro n hn
   have := hrd n hn
   have e1 : n ≠ ⟨L + 2, 128⟩ := by rintro rfl; simp at this; omega
   have e2 : n ≠ ⟨L + 1, 0⟩ := by rintro rfl; simp at this; omega
   have e3 : n ≠ ⟨L + 1, 32⟩ := by rintro rfl; simp at this; omega
   simp [Tx.look, e1, e2, e3, hF1 n hn]
  ·simp [Tx.look, rdB]
  ·exact ⟨⟨trivial, by simp [UpdAll, keys, updH, setH]⟩, rfl, by simp [TF]⟩
 ·intro F3 hF1 hF2
  exact readInit1_die ⟨L + 1, 0⟩ ⟨L + 1, 32⟩ (by simp) (by simp) (by simp) (by simp [Tx.look, SF.upd]) (by simp [Tx.look, SF.upd])
 ·intro F3 hF1 hF2
  refine PostN.val [] (.inr rfl) (by simp) (p := True) (v0 := .tup [.agg [.int .i64 0, .int .i64 0, .int .i64 0, .int .i64 0, .int .i64 0, .str []], .int .i64 5]) ?_ trivial ?_ ?_ trivial ?_
  ·simp only [Tryz.f121, cx, rsT, resVal, resVals, resVal1, one, go_sem, meths]
  ·simp [nmA, nmAL]
  ·simp [Tx.rn, Tx.rnL]
  ·simp [UpdAll, keys, updH, setH]
theorem readSack_ok {F : SF} {L nx : Nat} (s : List UInt8) (g : FuncId) (xs ys : List PV) (l : List PV) (hl : l.length = 4) (hnf : nfl l = true) (rds : List Nm) (hrd : ∀ n ∈ rds, n.l ≤ L) (hg : RdOk g xs ys s (.agg l) F L rds) :
  Con Tryz.prog 123 [.str s, .fn (.func g) xs ys] F L nx nx (.tup [.agg l, .int .i64 0]) [] rds := by
 refine Con.catch (k := 0) (cxOk (L + 1)) rfl rfl rfl (fn := Tryz.f123) (f := 123) (g := 155) (gn := Tryz.f155) (ch := chM) (u := .returning) (u' := .returning) (t1 := [some (.str s), some (.fn (.func g) xs ys), some undefP, some undefP, some (.ptr ⟨L + 1, 0⟩ 0 0), some (.ptr ⟨L + 1, 32⟩ 0 0), some undefP, some undefP, some undefP, some undefP, some undefP, some undefP, some undefP]) (H1 := [(⟨L + 1, 0⟩, .rows 55 4 true true [[.int .i64 0, .int .i64 0, .nilS, .nilS]]), (⟨L + 1, 32⟩, .rows 38 1 true true [[.int .i64 0]])]) (n1 := 64) (cl := [.ptr ⟨L + 1, 0⟩ 0 0, .ptr ⟨L + 1, 32⟩ 0 0]) (updB := [(⟨L + 1, 0⟩, .rows 55 4 true true [l]), (⟨L + 1, 32⟩, .rows 38 1 true true [[.int .i64 0]])]) (updc := []) (rs := [(4, ⟨L + 1, 0⟩, 0, 0), (5, ⟨L + 1, 32⟩, 0, 0)]) (rdc := [])
  (by kernel_rfl) (by rfl) (by kernel_rfl) rfl hrd rfl rfl rfl rfl rfl rfl (by kernel_rfl) (by kernel_rfl) (by kernel_rfl) (by simp) (by kernel_rfl) ?_ ?_ ?_ ?_ ?_ ?_ ?_ rfl ?_
 ·intro F3 hF1 hF2
  simp only [cx, go_sem, meths]
  first | exact ⟨rfl, rfl, rfl⟩ | rfl | simp [undefP]
 ·simp
 ·rfl
 ·simp
 ·simp [TF]
 ·intro F3 B hF1 hF2
  have q1 : ∀ k, ((⟨L + 2, k⟩ : Nm) = ⟨L + 1, 0⟩) = False := fun k => by simp
  have q2 : ∀ k, ((⟨L + 2, k⟩ : Nm) = ⟨L + 1, 32⟩) = False := fun k => by simp
  have q3 : ∀ k, ((⟨L + 1, 0⟩ : Nm) = ⟨L + 2, k⟩) = False := fun k => by simp
  have q4 : ∀ k, ((⟨L + 1, 32⟩ : Nm) = ⟨L + 2, k⟩) = False := fun k => by simp
  simp only [cx, go_sem, meths]
  refine CallVD.live (CallVC.same (hg _ ⟨L + 2, 128⟩ _ ?_ rfl ?_) ?_)
  ·intro n hn
   have := hrd n hn
   have e1 : n ≠ ⟨L + 2, 128⟩ := by rintro rfl; simp at this; omega
   have e2 : n ≠ ⟨L + 1, 0⟩ := by rintro rfl; simp at this; omega
   have e3 : n ≠ ⟨L + 1, 32⟩ := by rintro rfl; simp at this; omega
   simp [e1, e2, e3, hF1 n hn]
  ·simp [rdB]
  simp only [q3, q4, hl, hnf, go_sem]
  repeat refine sd1 ?_
  refine ⟨.inr trivial, ⟨⟨⟨?_, ?_, ?_, ?_, trivial⟩, ?_⟩, rfl, ?_⟩⟩
  ·simp
  ·rw [kp_nil]; exact .pure (by simp [Tx.look])
  ·simp
  ·rw [kp_nil]; exact .pure (by simp [Tx.look])
  ·simp [UpdAll, keys]
  ·simp [TF]
 ·intro F3 hF1 hF2
  exact readSack1_idle _ _
 ·intro F3 hF1 hF2
  refine PostN.val [] (.inr rfl) (by simp) (p := True) (v0 := .tup [.agg l, .int .i64 0]) ?_ trivial ?_ ?_ trivial ?_
  ·simp only [Tryz.f123, cx, rsT, resVal, resVals, resVal1, one, go_sem, meths]
  ·simp only [nmA, nmAL]; exact ⟨nmAL_nfl hnf, trivial, trivial⟩
  ·simp only [Tx.rn, Tx.rnL]; rw [rnL_nfl hnf]
  ·simp [UpdAll, keys, updH, setH]
theorem readSack_die {F : SF} {L nx : Nat} (s : List UInt8) (g : FuncId) (xs ys : List PV) (rds : List Nm) (hrd : ∀ n ∈ rds, n.l ≤ L) (hg : RdDie g xs ys s F L rds) :
  Con Tryz.prog 123 [.str s, .fn (.func g) xs ys] F L nx nx (.tup [.agg [.int .i64 0, .int .i64 0, .nilS, .nilS], .int .i64 5]) [] rds := by
 refine Con.catch (k := 0) (cxOk (L + 1)) rfl rfl rfl (fn := Tryz.f123) (f := 123) (g := 155) (gn := Tryz.f155) (ch := chM) (u := .panicking chM) (u' := .panicking chR) (t1 := [some (.str s), some (.fn (.func g) xs ys), some undefP, some undefP, some (.ptr ⟨L + 1, 0⟩ 0 0), some (.ptr ⟨L + 1, 32⟩ 0 0), some undefP, some undefP, some undefP, some undefP, some undefP, some undefP, some undefP]) (H1 := [(⟨L + 1, 0⟩, .rows 55 4 true true [[.int .i64 0, .int .i64 0, .nilS, .nilS]]), (⟨L + 1, 32⟩, .rows 38 1 true true [[.int .i64 0]])]) (n1 := 64) (cl := [.ptr ⟨L + 1, 0⟩ 0 0, .ptr ⟨L + 1, 32⟩ 0 0]) (updB := []) (updc := [(⟨L + 1, 0⟩, .rows 55 4 true true [[.int .i64 0, .int .i64 0, .nilS, .nilS]]), (⟨L + 1, 32⟩, .rows 38 1 true true [[.int .i64 5]])]) (rs := [(4, ⟨L + 1, 0⟩, 0, 0), (5, ⟨L + 1, 32⟩, 0, 0)]) (rdc := [⟨L + 1, 0⟩, ⟨L + 1, 32⟩])
  (by kernel_rfl) (by rfl) (by kernel_rfl) rfl hrd rfl rfl rfl rfl rfl rfl (by kernel_rfl) (by kernel_rfl) (by kernel_rfl) (by simp) (by kernel_rfl) ?_ ?_ ?_ ?_ ?_ ?_ ?_ rfl ?_
 ·intro F3 hF1 hF2
  simp only [cx, go_sem, meths]
  first | exact ⟨rfl, rfl, rfl⟩ | rfl | simp [undefP]
 ·simp
 ·rfl
 ·simp
 ·simp [TF]
 ·intro F3 B hF1 hF2
  have q1 : ∀ k, ((⟨L + 2, k⟩ : Nm) = ⟨L + 1, 0⟩) = False := fun k => by simp
  have q2 : ∀ k, ((⟨L + 2, k⟩ : Nm) = ⟨L + 1, 32⟩) = False := fun k => by simp
  have q3 : ∀ k, ((⟨L + 1, 0⟩ : Nm) = ⟨L + 2, k⟩) = False := fun k => by simp
  have q4 : ∀ k, ((⟨L + 1, 32⟩ : Nm) = ⟨L + 2, k⟩) = False := fun k => by simp
  simp only [cx, go_sem, meths]
  refine CallVD.same rfl (hg _ ⟨L + 2, 128⟩ ?_ rfl ?_) ?_
  ·intro n hn
   have := hrd n hn
   have e1 : n ≠ ⟨L + 2, 128⟩ := by rintro rfl; simp at this; omega
   have e2 : n ≠ ⟨L + 1, 0⟩ := by rintro rfl; simp at this; omega
   have e3 : n ≠ ⟨L + 1, 32⟩ := by rintro rfl; simp at this; omega
   simp [Tx.look, e1, e2, e3, hF1 n hn]
  ·simp [Tx.look, rdB]
  ·exact ⟨⟨trivial, by simp [UpdAll, keys, updH, setH]⟩, rfl, by simp [TF]⟩
 ·intro F3 hF1 hF2
  exact readSack1_die ⟨L + 1, 0⟩ ⟨L + 1, 32⟩ (by simp) (by simp) (by simp) (by simp [Tx.look, SF.upd]) (by simp [Tx.look, SF.upd])
 ·intro F3 hF1 hF2
  refine PostN.val [] (.inr rfl) (by simp) (p := True) (v0 := .tup [.agg [.int .i64 0, .int .i64 0, .nilS, .nilS], .int .i64 5]) ?_ trivial ?_ ?_ trivial ?_
  ·simp only [Tryz.f123, cx, rsT, resVal, resVals, resVal1, one, go_sem, meths]
  ·simp [nmA, nmAL]
  ·simp [Tx.rn, Tx.rnL]
  ·simp [UpdAll, keys, updH, setH]
theorem readForward_ok {F : SF} {L nx : Nat} (s : List UInt8) (g : FuncId) (xs ys : List PV) (l : List PV) (hl : l.length = 2) (hnf : nfl l = true) (rds : List Nm) (hrd : ∀ n ∈ rds, n.l ≤ L) (hg : RdOk g xs ys s (.agg l) F L rds) :
  Con Tryz.prog 125 [.str s, .fn (.func g) xs ys] F L nx nx (.tup [.agg l, .int .i64 0]) [] rds := by
 refine Con.catch (k := 0) (cxOk (L + 1)) rfl rfl rfl (fn := Tryz.f125) (f := 125) (g := 156) (gn := Tryz.f156) (ch := chM) (u := .returning) (u' := .returning) (t1 := [some (.str s), some (.fn (.func g) xs ys), some undefP, some undefP, some (.ptr ⟨L + 1, 0⟩ 0 0), some (.ptr ⟨L + 1, 32⟩ 0 0), some undefP, some undefP, some undefP, some undefP, some undefP, some undefP, some undefP]) (H1 := [(⟨L + 1, 0⟩, .rows 59 2 true true [[.int .i64 0, .nilS]]), (⟨L + 1, 32⟩, .rows 38 1 true true [[.int .i64 0]])]) (n1 := 64) (cl := [.ptr ⟨L + 1, 0⟩ 0 0, .ptr ⟨L + 1, 32⟩ 0 0]) (updB := [(⟨L + 1, 0⟩, .rows 59 2 true true [l]), (⟨L + 1, 32⟩, .rows 38 1 true true [[.int .i64 0]])]) (updc := []) (rs := [(4, ⟨L + 1, 0⟩, 0, 0), (5, ⟨L + 1, 32⟩, 0, 0)]) (rdc := [])
  (by kernel_rfl) (by rfl) (by kernel_rfl) rfl hrd rfl rfl rfl rfl rfl rfl (by kernel_rfl) (by kernel_rfl) (by kernel_rfl) (by simp) (by kernel_rfl) ?_ ?_ ?_ ?_ ?_ ?_ ?_ rfl ?_
 ·intro F3 hF1 hF2
  simp only [cx, go_sem, meths]
  first | exact ⟨rfl, rfl, rfl⟩ | rfl | simp [undefP]
 ·simp
 ·rfl
 ·simp
 ·simp [TF]
 ·intro F3 B hF1 hF2
  have q1 : ∀ k, ((⟨L + 2, k⟩ : Nm) = ⟨L + 1, 0⟩) = False := fun k => by simp
  have q2 : ∀ k, ((⟨L + 2, k⟩ : Nm) = ⟨L + 1, 32⟩) = False := fun k => by simp
  have q3 : ∀ k, ((⟨L + 1, 0⟩ : Nm) = ⟨L + 2, k⟩) = False := fun k => by simp
  have q4 : ∀ k, ((⟨L + 1, 32⟩ : Nm) = ⟨L + 2, k⟩) = False := fun k => by simp
  simp only [cx, go_sem, meths]
  refine CallVD.live (CallVC.same (hg _ ⟨L + 2, 128⟩ _ ?_ rfl ?_) ?_)
  ·intro n hn
   have := hrd n hn
   have e1 : n ≠ ⟨L + 2, 128⟩ := by rintro rfl; simp at this; omega
   have e2 : n ≠ ⟨L + 1, 0⟩ := by rintro rfl; simp at this; omega
   have e3 : n ≠ ⟨L + 1, 32⟩ := by rintro rfl; simp at this; omega
   simp [e1, e2, e3, hF1 n hn]
  ·simp [rdB]
  simp only [q3, q4, hl, hnf, go_sem]
  repeat refine sd1 ?_
  refine ⟨.inr trivial, ⟨⟨⟨?_, ?_, ?_, ?_, trivial⟩, ?_⟩, rfl, ?_⟩⟩
  ·simp
  ·rw [kp_nil]; exact .pure (by simp [Tx.look])
  ·simp
  ·rw [kp_nil]; exact .pure (by simp [Tx.look])
  ·simp [UpdAll, keys]
  ·simp [TF]
 ·intro F3 hF1 hF2
  exact readForward1_idle _ _
 ·intro F3 hF1 hF2
  refine PostN.val [] (.inr rfl) (by simp) (p := True) (v0 := .tup [.agg l, .int .i64 0]) ?_ trivial ?_ ?_ trivial ?_
  ·simp only [Tryz.f125, cx, rsT, resVal, resVals, resVal1, one, go_sem, meths]
  ·simp only [nmA, nmAL]; exact ⟨nmAL_nfl hnf, trivial, trivial⟩
  ·simp only [Tx.rn, Tx.rnL]; rw [rnL_nfl hnf]
  ·simp [UpdAll, keys, updH, setH]
theorem readForward_die {F : SF} {L nx : Nat} (s : List UInt8) (g : FuncId) (xs ys : List PV) (rds : List Nm) (hrd : ∀ n ∈ rds, n.l ≤ L) (hg : RdDie g xs ys s F L rds) :
  Con Tryz.prog 125 [.str s, .fn (.func g) xs ys] F L nx nx (.tup [.agg [.int .i64 0, .nilS], .int .i64 5]) [] rds := by
 refine Con.catch (k := 0) (cxOk (L + 1)) rfl rfl rfl (fn := Tryz.f125) (f := 125) (g := 156) (gn := Tryz.f156) (ch := chM) (u := .panicking chM) (u' := .panicking chR) (t1 := [some (.str s), some (.fn (.func g) xs ys), some undefP, some undefP, some (.ptr ⟨L + 1, 0⟩ 0 0), some (.ptr ⟨L + 1, 32⟩ 0 0), some undefP, some undefP, some undefP, some undefP, some undefP, some undefP, some undefP]) (H1 := [(⟨L + 1, 0⟩, .rows 59 2 true true [[.int .i64 0, .nilS]]), (⟨L + 1, 32⟩, .rows 38 1 true true [[.int .i64 0]])]) (n1 := 64) (cl := [.ptr ⟨L + 1, 0⟩ 0 0, .ptr ⟨L + 1, 32⟩ 0 0]) (updB := []) (updc := [(⟨L + 1, 0⟩, .rows 59 2 true true [[.int .i64 0, .nilS]]), (⟨L + 1, 32⟩, .rows 38 1 true true [[.int .i64 5]])]) (rs := [(4, ⟨L + 1, 0⟩, 0, 0), (5, ⟨L + 1, 32⟩, 0, 0)]) (rdc := [⟨L + 1, 0⟩, ⟨L + 1, 32⟩])
  (by kernel_rfl) (by rfl) (by kernel_rfl) rfl hrd rfl rfl rfl rfl rfl rfl (by kernel_rfl) (by kernel_rfl) (by kernel_rfl) (by simp) (by kernel_rfl) ?_ ?_ ?_ ?_ ?_ ?_ ?_ rfl ?_
 ·intro F3 hF1 hF2
  simp only [cx, go_sem, meths]
  first | exact ⟨rfl, rfl, rfl⟩ | rfl | simp [undefP]
 ·simp
 ·rfl
 ·simp
 ·simp [TF]
 ·intro F3 B hF1 hF2
  have q1 : ∀ k, ((⟨L + 2, k⟩ : Nm) = ⟨L + 1, 0⟩) = False := fun k => by simp
  have q2 : ∀ k, ((⟨L + 2, k⟩ : Nm) = ⟨L + 1, 32⟩) = False := fun k => by simp
  have q3 : ∀ k, ((⟨L + 1, 0⟩ : Nm) = ⟨L + 2, k⟩) = False := fun k => by simp
  have q4 : ∀ k, ((⟨L + 1, 32⟩ : Nm) = ⟨L + 2, k⟩) = False := fun k => by simp
  simp only [cx, go_sem, meths]
  refine CallVD.same rfl (hg _ ⟨L + 2, 128⟩ ?_ rfl ?_) ?_
  ·intro n hn
   have := hrd n hn
   have e1 : n ≠ ⟨L + 2, 128⟩ := by rintro rfl; simp at this; omega
   have e2 : n ≠ ⟨L + 1, 0⟩ := by rintro rfl; simp at this; omega
   have e3 : n ≠ ⟨L + 1, 32⟩ := by rintro rfl; simp at this; omega
   simp [Tx.look, e1, e2, e3, hF1 n hn]
  ·simp [Tx.look, rdB]
  ·exact ⟨⟨trivial, by simp [UpdAll, keys, updH, setH]⟩, rfl, by simp [TF]⟩
 ·intro F3 hF1 hF2
  exact readForward1_die ⟨L + 1, 0⟩ ⟨L + 1, 32⟩ (by simp) (by simp) (by simp) (by simp [Tx.look, SF.upd]) (by simp [Tx.look, SF.upd])
 ·intro F3 hF1 hF2
  refine PostN.val [] (.inr rfl) (by simp) (p := True) (v0 := .tup [.agg [.int .i64 0, .nilS], .int .i64 5]) ?_ trivial ?_ ?_ trivial ?_
  ·simp only [Tryz.f125, cx, rsT, resVal, resVals, resVal1, one, go_sem, meths]
  ·simp [nmA, nmAL]
  ·simp [Tx.rn, Tx.rnL]
  ·simp [UpdAll, keys, updH, setH]
theorem readReset_ok {F : SF} {L nx : Nat} (s : List UInt8) (g : FuncId) (xs ys : List PV) (l : List PV) (hl : l.length = 5) (hnf : nfl l = true) (rds : List Nm) (hrd : ∀ n ∈ rds, n.l ≤ L) (hg : RdOk g xs ys s (.agg l) F L rds) :
  Con Tryz.prog 127 [.str s, .fn (.func g) xs ys] F L nx nx (.tup [.agg l, .int .i64 0]) [] rds := by
 refine Con.catch (k := 0) (cxOk (L + 1)) rfl rfl rfl (fn := Tryz.f127) (f := 127) (g := 157) (gn := Tryz.f157) (ch := chM) (u := .returning) (u' := .returning) (t1 := [some (.str s), some (.fn (.func g) xs ys), some undefP, some undefP, some (.ptr ⟨L + 1, 0⟩ 0 0), some (.ptr ⟨L + 1, 32⟩ 0 0), some undefP, some undefP, some undefP, some undefP, some undefP, some undefP, some undefP]) (H1 := [(⟨L + 1, 0⟩, .rows 61 5 true true [[.int .i64 0, .int .i64 0, .int .i64 0, .int .i64 0, .nilS]]), (⟨L + 1, 32⟩, .rows 38 1 true true [[.int .i64 0]])]) (n1 := 64) (cl := [.ptr ⟨L + 1, 0⟩ 0 0, .ptr ⟨L + 1, 32⟩ 0 0]) (updB := [(⟨L + 1, 0⟩, .rows 61 5 true true [l]), (⟨L + 1, 32⟩, .rows 38 1 true true [[.int .i64 0]])]) (updc := []) (rs := [(4, ⟨L + 1, 0⟩, 0, 0), (5, ⟨L + 1, 32⟩, 0, 0)]) (rdc := [])
  (by kernel_rfl) (by rfl) (by kernel_rfl) rfl hrd rfl rfl rfl rfl rfl rfl (by kernel_rfl) (by kernel_rfl) (by kernel_rfl) (by simp) (by kernel_rfl) ?_ ?_ ?_ ?_ ?_ ?_ ?_ rfl ?_
 ·intro F3 hF1 hF2
  simp only [cx, go_sem, meths]
  first | exact ⟨rfl, rfl, rfl⟩ | rfl | simp [undefP]
 ·simp
 ·rfl
 ·simp
 ·simp [TF]
 ·intro F3 B hF1 hF2
  have q1 : ∀ k, ((⟨L + 2, k⟩ : Nm) = ⟨L + 1, 0⟩) = False := fun k => by simp
  have q2 : ∀ k, ((⟨L + 2, k⟩ : Nm) = ⟨L + 1, 32⟩) = False := fun k => by simp
  have q3 : ∀ k, ((⟨L + 1, 0⟩ : Nm) = ⟨L + 2, k⟩) = False := fun k => by simp
  have q4 : ∀ k, ((⟨L + 1, 32⟩ : Nm) = ⟨L + 2, k⟩) = False := fun k => by simp
  simp only [cx, go_sem, meths]
  refine CallVD.live (CallVC.same (hg _ ⟨L + 2, 128⟩ _ ?_ rfl ?_) ?_)
  ·intro n hn
   have := hrd n hn
   have e1 : n ≠ ⟨L + 2, 128⟩ := by rintro rfl; simp at this; omega
   have e2 : n ≠ ⟨L + 1, 0⟩ := by rintro rfl; simp at this; omega
   have e3 : n ≠ ⟨L + 1, 32⟩ := by rintro rfl; simp at this; omega
   simp [e1, e2, e3, hF1 n hn]
  ·simp [rdB]
  simp only [q3, q4, hl, hnf, go_sem]
  repeat refine sd1 ?_
  refine ⟨.inr trivial, ⟨⟨⟨?_, ?_, ?_, ?_, trivial⟩, ?_⟩, rfl, ?_⟩⟩
  ·simp
  ·rw [kp_nil]; exact .pure (by simp [Tx.look])
  ·simp
  ·rw [kp_nil]; exact .pure (by simp [Tx.look])
  ·simp [UpdAll, keys]
  ·simp [TF]
 ·intro F3 hF1 hF2
  exact readReset1_idle _ _
 ·intro F3 hF1 hF2
  refine PostN.val [] (.inr rfl) (by simp) (p := True) (v0 := .tup [.agg l, .int .i64 0]) ?_ trivial ?_ ?_ trivial ?_
  ·simp only [Tryz.f127, cx, rsT, resVal, resVals, resVal1, one, go_sem, meths]
  ·simp only [nmA, nmAL]; exact ⟨nmAL_nfl hnf, trivial, trivial⟩
  ·simp only [Tx.rn, Tx.rnL]; rw [rnL_nfl hnf]
  ·simp [UpdAll, keys, updH, setH]
theorem readReset_die {F : SF} {L nx : Nat} (s : List UInt8) (g : FuncId) (xs ys : List PV) (rds : List Nm) (hrd : ∀ n ∈ rds, n.l ≤ L) (hg : RdDie g xs ys s F L rds) :
  Con Tryz.prog 127 [.str s, .fn (.func g) xs ys] F L nx nx (.tup [.agg [.int .i64 0, .int .i64 0, .int .i64 0, .int .i64 0, .nilS], .int .i64 5]) [] rds := by
 refine Con.catch (k := 0) (cxOk (L + 1)) rfl rfl rfl (fn := Tryz.f127) (f := 127) (g := 157) (gn := Tryz.f157) (ch := chM) (u := .panicking chM) (u' := .panicking chR) (t1 := [some (.str s), some (.fn (.func g) xs ys), some undefP, some undefP, some (.ptr ⟨L + 1, 0⟩ 0 0), some (.ptr ⟨L + 1, 32⟩ 0 0), some undefP, some undefP, some undefP, some undefP, some undefP, some undefP, some undefP]) (H1 := [(⟨L + 1, 0⟩, .rows 61 5 true true [[.int .i64 0, .int .i64 0, .int .i64 0, .int .i64 0, .nilS]]), (⟨L + 1, 32⟩, .rows 38 1 true true [[.int .i64 0]])]) (n1 := 64) (cl := [.ptr ⟨L + 1, 0⟩ 0 0, .ptr ⟨L + 1, 32⟩ 0 0]) (updB := []) (updc := [(⟨L + 1, 0⟩, .rows 61 5 true true [[.int .i64 0, .int .i64 0, .int .i64 0, .int .i64 0, .nilS]]), (⟨L + 1, 32⟩, .rows 38 1 true true [[.int .i64 5]])]) (rs := [(4, ⟨L + 1, 0⟩, 0, 0), (5, ⟨L + 1, 32⟩, 0, 0)]) (rdc := [⟨L + 1, 0⟩, ⟨L + 1, 32⟩])
  (by kernel_rfl) (by rfl) (by kernel_rfl) rfl hrd rfl rfl rfl rfl rfl rfl (by kernel_rfl) (by kernel_rfl) (by kernel_rfl) (by simp) (by kernel_rfl) ?_ ?_ ?_ ?_ ?_ ?_ ?_ rfl ?_
 ·intro F3 hF1 hF2
  simp only [cx, go_sem, meths]
  first | exact ⟨rfl, rfl, rfl⟩ | rfl | simp [undefP]
 ·simp
 ·rfl
 ·simp
 ·simp [TF]
 ·intro F3 B hF1 hF2
  have q1 : ∀ k, ((⟨L + 2, k⟩ : Nm) = ⟨L + 1, 0⟩) = False := fun k => by simp
  have q2 : ∀ k, ((⟨L + 2, k⟩ : Nm) = ⟨L + 1, 32⟩) = False := fun k => by simp
  have q3 : ∀ k, ((⟨L + 1, 0⟩ : Nm) = ⟨L + 2, k⟩) = False := fun k => by simp
  have q4 : ∀ k, ((⟨L + 1, 32⟩ : Nm) = ⟨L + 2, k⟩) = False := fun k => by simp
  simp only [cx, go_sem, meths]
  refine CallVD.same rfl (hg _ ⟨L + 2, 128⟩ ?_ rfl ?_) ?_
  ·intro n hn
   have := hrd n hn
   have e1 : n ≠ ⟨L + 2, 128⟩ := by rintro rfl; simp at this; omega
   have e2 : n ≠ ⟨L + 1, 0⟩ := by rintro rfl; simp at this; omega
   have e3 : n ≠ ⟨L + 1, 32⟩ := by rintro rfl; simp at this; omega
   simp [Tx.look, e1, e2, e3, hF1 n hn]
  ·simp [Tx.look, rdB]
  ·exact ⟨⟨trivial, by simp [UpdAll, keys, updH, setH]⟩, rfl, by simp [TF]⟩
 ·intro F3 hF1 hF2
  exact readReset1_die ⟨L + 1, 0⟩ ⟨L + 1, 32⟩ (by simp) (by simp) (by simp) (by simp [Tx.look, SF.upd]) (by simp [Tx.look, SF.upd])
 ·intro F3 hF1 hF2
  refine PostN.val [] (.inr rfl) (by simp) (p := True) (v0 := .tup [.agg [.int .i64 0, .int .i64 0, .int .i64 0, .int .i64 0, .nilS], .int .i64 5]) ?_ trivial ?_ ?_ trivial ?_
  ·simp only [Tryz.f127, cx, rsT, resVal, resVals, resVal1, one, go_sem, meths]
  ·simp [nmA, nmAL]
  ·simp [Tx.rn, Tx.rnL]
  ·simp [UpdAll, keys, updH, setH]
def lead (x y b : Int) : Int := if (x - y) % 2 ^ b.toNat / 2 ^ (b - 1).toNat = 1 then (x - y) % 2 ^ b.toNat - 2 ^ b.toNat else (x - y) % 2 ^ b.toNat
end Go.Proofs.YtaacfnngodhecaaGreatDoor
end
section
namespace Go.Proofs.YtaacfnngodhecaaGreatDoor
open Go.Tx
set_option maxRecDepth 100000
end Go.Proofs.YtaacfnngodhecaaGreatDoor
end
section
namespace Go.Proofs.YtaacfnngodhecaaGreatDoor
open Go.Tx
set_option maxRecDepth 100000
def serB (b x : Int) : Bool := decide (0 ≤ x) && decide (x < 2 ^ b.toNat)
def okAt (xs : List Int) (n : Int) (i : Nat) : Bool := decide (0 ≤ xs.getD i 0) && decide (xs.getD i 0 < n) && (i == 0 || decide (xs.getD (i - 1) 0 < xs.getD i 0))
def listedB (xs : List Int) (n : Int) : Bool := (List.range xs.length).all (okAt xs n)
theorem index_ok {F : SF} {L nx : Nat} (xs : List Int) (y : Int) (hlen : xs.length ≤ 1000000) : Con Tryz.prog 152 [.fs 1 (xs.map eI), .int .i64 y] F L nx nx (.int .i64 (idxI (fun x => y == x) xs)) [] [] := by
 refine bdy Tryz.f152 ?_
 intro F3 hF1 hF2
 simp only [Tryz.f152, cx, go_sem, meths]
 refine loopK.intro _ _ (I := fun i : Nat => ⟨[some (.fs 1 (xs.map eI)), some (.int .i64 y), none, none, none, none, none, some (.int .i64 xs.length), some (.int .i64 i), none, none, none, none, none, none, none, none, none, none], [], 1000 * (i + 1)⟩) (pre := fun i => i ≤ xs.length ∧ ∀ (j : Nat) (hj : j < xs.length), j < i → (y == xs[j]) = false) (μ := fun i => xs.length - i) 0 ⟨by omega, by intro j _ h; omega⟩ ?_ ?_
 ·exact Sub.of (hfz hF2) (by simp only [go_sem, subT, and_self, List.length_map, Int.natCast_zero]) trivial trivial (by simp)
 ·rintro i ⟨hi, hp⟩
  by_cases hlt : i < xs.length
  ·have g1 : decide ((i : Int) < (xs.length : Int)) = true := dT (by omega)
   have hx : xs.getD i 0 = xs[i] := by simp [hlt, List.getD_eq_getElem?_getD]
   have i1 : Go.Sx.inI64 ((i : Int) + 1) := ⟨by omega, by omega⟩
   have hl := len_eI xs
   cases hpi : (y == xs[i])
   ·simp only [g1, getD_eI xs hlt, eI, hx, hpi, hl, go_sem]
    refine ⟨⟨by omega, by omega⟩, hlt, i1, i + 1, ⟨by omega, fun j hj hji => ?_⟩, by omega, Sub.of (hfz hF2) (by simp only [go_sem, subT, and_self, Int.natCast_add, Int.cast_ofNat_Int]) trivial trivial (by simp; omega)⟩
    by_cases he : j = i
    ·subst he; exact hpi
    ·exact hp j hj (by omega)
   ·simp only [g1, getD_eI xs hlt, eI, hx, hpi, hl, go_sem]
    exact ⟨⟨by omega, by omega⟩, hlt, .int (.inr rfl) rfl (idxI_stop hlt hp hpi).symm trivial⟩
  ·have g1 : decide ((i : Int) < (xs.length : Int)) = false := dF (by omega)
   simp only [g1, go_sem]
   exact .int (.inr rfl) rfl (idxI_end (fun j hj => hp j hj (by omega))).symm trivial
theorem contains_ok {F : SF} {L nx : Nat} (xs : List Int) (y : Int) (hlen : xs.length ≤ 1000000) : Con Tryz.prog 118 [.fs 1 (xs.map eI), .int .i64 y] F L nx nx (.bool (xs.any fun x => y == x)) [] [] := by
 refine bdy Tryz.f118 ?_
 intro F3 hF1 hF2
 simp only [Tryz.f118, cx, go_sem, meths]
 refine CallVC.same (index_ok xs y hlen) ?_
 simp only [go_sem]
 exact .bool (.inr rfl) rfl (idxI_any _ xs) trivial
end Go.Proofs.YtaacfnngodhecaaGreatDoor
end
section
namespace Go.Proofs.YtaacfnngodhecaaGreatDoor
open Go.Tx
set_option maxRecDepth 100000
end Go.Proofs.YtaacfnngodhecaaGreatDoor
end
section
namespace Go.Proofs.YtaacfnngodhecaaGreatDoor
open Go.Tx
set_option maxRecDepth 100000
end Go.Proofs.YtaacfnngodhecaaGreatDoor
end
section
namespace Go.Proofs.YtaacfnngodhecaaGreatDoor
open Go.Tx
set_option maxRecDepth 100000
end Go.Proofs.YtaacfnngodhecaaGreatDoor
end
section
namespace Go.Proofs.YtaacfnngodhecaaGreatDoor
open Go.Tx
set_option maxRecDepth 100000
end Go.Proofs.YtaacfnngodhecaaGreatDoor
end
section
namespace Go.Proofs.YtaacfnngodhecaaGreatDoor
open Go.Tx
set_option maxRecDepth 100000
end Go.Proofs.YtaacfnngodhecaaGreatDoor
end
section
namespace Go.Proofs.YtaacfnngodhecaaGreatDoor
open Go.Tx
set_option maxRecDepth 100000
set_option maxHeartbeats 1000000
theorem BN_dead {L nx : Nat} {news : List Nat} {G : SF} {ob : Option SBlk} : BN L nx news G ob .dead := by
 cases ob with
 | none => trivial
 | some b => cases b <;> trivial
theorem nB {i k : Nat} (h : k < 10000) : (10000 * (i + 1) = k) = False := by apply eq_false; omega
theorem PostF.same {T : Tys} {F : SF} {rl : List ResultVar} {L : Nat} {v : PV} {e : Exit} {st : St} {p : Prop} (he : e = .normal ∨ e = .ret) (h : resVal T (Tx.look F st.H) st.t rl = some (p, v)) (hp : p) (hf : Tx.nf v = true) (ha : UpdAll L [] st.H) : PostF T F rl L v [] e st :=
 .of he h hp (wk_refl _ v).1 (by intro n hn; rw [(wk_refl F v).2] at hn; cases hn) hf trivial ha
theorem ints_ok {F : SF} {L nx : Nat} (xs ys : List Int) (hx : xs.length ≤ 1000000) (hy : ys.length ≤ 1000000) :
  Con Tryz.prog 99 [.fs 1 (xs.map eI), .fs 1 (ys.map eI)] F L nx nx (.bool (xs == ys)) [] [] := by
 refine bdy Tryz.f99 ?_
 intro F3 hF1 hF2
 simp only [Tryz.f99, cx, go_sem, meths]
 simp only [List.length_map]
 refine brB.mk (fun hne => ?_) (fun heq => ?_)
 ·refine .bool (.inr rfl) rfl ?_ trivial
  symm
  simp only [beq_eq_false_iff_ne]
  rintro rfl
  simp at hne
 ·have hl : xs.length = ys.length := by have := heq; simp at this; omega
  refine loopK.intro _ _ (I := fun i : Nat => ⟨[some (.fs 1 (xs.map eI)), some (.fs 1 (ys.map eI)), none, none, none, some (.int .i64 i), none, none, none, none, none, none, none, none, none, none, none, none, none, none, none, none, none, none, none, none], [], 1000 * (i + 1)⟩) (pre := fun i => i ≤ xs.length ∧ ∀ j, j < i → xs.getD j 0 = ys.getD j 0) (μ := fun i => xs.length - i) 0 ⟨by omega, by intro j h; omega⟩ ?_ ?_
  ·exact Sub.of (hfz hF2) (by simp only [go_sem, subT, and_self, Int.natCast_zero]) trivial trivial (by simp)
  ·rintro i ⟨hi, hp⟩
   by_cases hlt : i < xs.length
   ·have f1 : decide ((i : Int) < (xs.length : Int)) = true := dT (by omega)
    have r0 := getD_eI xs hlt
    have r1 := getD_eI ys (show i < ys.length by omega)
    have i1 : Go.Sx.inI64 ((i : Int) + 1) := ⟨by omega, by omega⟩
    simp only [f1, r0, r1, eI, List.length_map, go_sem]
    refine ⟨by kernel_rfl, ⟨by omega, by omega⟩, hlt, ⟨by omega, by omega⟩, by omega, okDyn_num (·.i) (by kernel_rfl), brB.mk (fun hne => ?_) (fun heq => ⟨i1, i + 1, ⟨by omega, fun j hj => ?_⟩, by omega, ?_⟩)⟩
    ·refine .bool (.inr rfl) rfl ?_ trivial
     symm
     simp only [beq_eq_false_iff_ne]
     rintro rfl
     simp at hne
    ·rcases Nat.lt_or_ge j i with h | h
     ·exact hp j h
     ·have : j = i := by omega
      subst this
      simpa using heq
    ·exact Sub.of (hfz hF2) (by simp only [go_sem, subT, and_self, Int.natCast_succ]) trivial trivial (by simp; omega)
   ·have f1 : decide ((i : Int) < (xs.length : Int)) = false := dF (by omega)
    simp only [f1, List.length_map, go_sem]
    refine .bool (.inr rfl) rfl ?_ trivial
    symm
    simp only [beq_iff_eq]
    apply List.ext_getElem hl
    intro k h1 h2
    have := hp k (by omega)
    simpa [List.getD_eq_getElem?_getD, h1, h2] using this
theorem kp_out {L nx : Nat} {news : List Nat} {n : Nm} (h : n.l < L ∨ n.i < nx ∨ news = []) : kp L nx news n = n := by
 unfold kp
 rw [if_neg]
 rintro ⟨h1, h2, h3⟩
 rcases h with h | h | h
 ·omega
 ·omega
 ·subst h; simp at h3; omega
theorem kp_nil2 {L nx : Nat} {n : Nm} : kp L nx [] n = n := kp_out (.inr (.inr rfl))
theorem sg_out {L nx : Nat} {news : List Nat} {n : Nm} (h : n.l ≤ L) : sg L nx news n = n := by unfold sg; rw [if_neg (by omega)]
theorem noEscape_ok {F : SF} {L nx : Nat} (n : Nm) (r c : Nat) : Con Tryz.prog 138 [.ptr n r c] F L nx nx (.ptr n r c) [] [] := by
 refine ⟨Nat.le_refl _, fun F2 h2 E w args' hR hf hd hv => ?_⟩
 simp only [VRl] at hv
 obtain ⟨v, t, rfl, h1, rfl⟩ := hv
 have hr : (callFunc 138 [v].toArray).run Tryz.prog w = .ok (.value v) w := by rfl
 rw [hr]
 exact ⟨E, h1, StepR.refl hR, fun n a b => absurd a b⟩
theorem copyCheck0_ok {F : SF} {L nx : Nat} (n : Nm) (e : TypeId) (he : e = 130 ∨ e = 128) (p : Bool) (hn : n.l ≤ L) (hF : F n = some (.rows e 2 true p [[.nilP, .nilS]])) :
  Con Tryz.prog 108 [.ptr n 0 0] F L nx nx (.tup []) [(n, .rows e 2 true false [[.ptr n 0 0, .nilS]])] [n] := by
 show Con Tryz.prog 108 _ F L nx (nx + 0) _ _ _
 refine bdyN Tryz.f108 (hrd := (by simp [hn])) ?_
 intro F3 hF1 hF2
 have hFn := (hF1 n (by simp)).trans hF
 rcases he with rfl | rfl
 all_goals
  simp only [Tryz.f108, cx, hFn, Nat.add_zero, go_sem, meths]
  refine CallVC.same (noEscape_ok n 0 0) ?_
  simp only [hFn, Nat.add_zero, go_sem]
  refine .now (PostN.val [] (.inl rfl) List.nodup_nil (p := True) (v0 := .tup []) rfl trivial (by trivial) rfl ⟨hn, ?_, trivial⟩ (by simp [UpdAll, keys]))
  rw [kp_nil2]
  exact .ren (by simp [Tx.look]; rfl) (by simp [rowsNm, nmA, nmAL, Dn, hn]) (by simp [Tx.rn, Tx.rnL, sg_out hn])
theorem copyCheck1_ok {F : SF} {L nx : Nat} (n : Nm) (e : TypeId) (he : e = 130 ∨ e = 128) (buf : PV) (hn : n.l ≤ L) (hF : F n = some (.rows e 2 true false [[.ptr n 0 0, buf]])) :
  Con Tryz.prog 108 [.ptr n 0 0] F L nx nx (.tup []) [] [n] := by
 show Con Tryz.prog 108 _ F L nx (nx + 0) _ _ _
 refine bdyN Tryz.f108 (hrd := (by simp [hn])) ?_
 intro F3 hF1 hF2
 have hFn := (hF1 n (by simp)).trans hF
 rcases he with rfl | rfl
 all_goals
  simp only [Tryz.f108, cx, hFn, Nat.add_zero, go_sem, meths]
  exact .now (PostN.val [] (.inl rfl) List.nodup_nil (p := True) (v0 := .tup []) rfl trivial (by trivial) rfl trivial (by simp [UpdAll]))
def bldF (F : SF) (n : Nm) (e : TypeId) (b : Option Nm) (t : List UInt8) : Prop :=
 match b with
 | none => t = [] ∧ ∃ p, F n = some (.rows e 2 true p [[.nilP, .nilS]])
 | some m => t ≠ [] ∧ F n = some (.rows e 2 true false [[.ptr n 0 0, .sl m 0 t.length]]) ∧ F m = some (.rows 5 1 true true (t.map rowB)) ∧ m ≠ n
def bldU (n : Nm) (e : TypeId) (m : Nm) (t : List UInt8) : List (Nm × SBlk) :=
 [(n, .rows e 2 true false [[.ptr n 0 0, .sl m 0 t.length]]), (m, .rows 5 1 true true (t.map rowB))]
theorem writeString0_ok {F : SF} {L nx : Nat} (n : Nm) (e : TypeId) (he : e = 130 ∨ e = 128) (hn : n.l < L ∨ (n.l = L ∧ n.i < nx)) (s : List UInt8) (hs : s ≠ []) (hsl : s.length ≤ 1000000) (hb : bldF F n e none []) :
  Con Tryz.prog 65 [.ptr n 0 0, .str s] F L nx (nx + 1) (.tup [.int .i64 s.length, .nilI]) (bldU n e ⟨L, nx⟩ s) [n] := by
 refine bdyN Tryz.f65 (hrd := (by simp; omega)) ?_
 intro F3 hF1 hF2
 obtain ⟨_, p, hbp⟩ := hb
 have hFn := (hF1 n (by simp)).trans hbp
 have n1 : ∀ k, (n = (⟨L + 1, k⟩ : Nm)) = False := nm_out (by omega)
 have n2 : ∀ k, ((⟨L + 1, k⟩ : Nm) = n) = False := nm_out' (by omega)
 simp only [Tryz.f65, cx, go_sem, meths]
 refine CallVC.same (copyCheck0_ok n e he p (by omega) (by simp [hFn])) ?_
 simp only [hFn, n1, n2, go_sem]
 have e1 : List.map (fun b : UInt8 => [PV.int .u8 b.toNat]) s = s.map rowB := rfl
 rw [e1, List.length_map]
 refine ⟨⟨by omega, by omega⟩, ?_⟩
 refine .now (PostN.val [288] (.inr rfl) (by simp) (p := True) (v0 := .tup [.int .i64 s.length, .nilI]) ?_ trivial ?_ ?_ ⟨by omega, ?_, Nat.le_refl _, ?_, trivial⟩ ?_)
 ·simp only [resVal, resVals, resVal1, one, go_sem]
 ·simp [nmA, nmAL]
 ·simp [Tx.rn, Tx.rnL]
 ·rw [kp_out (hn.imp id fun h => .inl h.2)]
  exact .ren (by simp [Tx.look]; rfl) (by simp [rowsNm, nmA, nmAL, Dn]; omega) (by simp [Tx.rn, Tx.rnL, sg_out (show n.l ≤ L by omega)]; simp [sg])
 ·rw [kp_at0 (by simp)]
  exact .pure (by simp [Tx.look, n2])
 ·simp [UpdAll, keys, bldU]
theorem writeString1_ok {F : SF} {L nx : Nat} (n : Nm) (e : TypeId) (he : e = 130 ∨ e = 128) (hn : n.l < L ∨ (n.l = L ∧ n.i < nx)) (m : Nm) (hm : m.l < L ∨ (m.l = L ∧ m.i < nx)) (t s : List UInt8) (hs : s ≠ []) (hsl : t.length + s.length ≤ 1000000) (hb : bldF F n e (some m) t) :
  Con Tryz.prog 65 [.ptr n 0 0, .str s] F L nx (nx + 1) (.tup [.int .i64 s.length, .nilI]) ((m, .dead) :: bldU n e ⟨L, nx⟩ (t ++ s)) [n, m] := by
 refine bdyN Tryz.f65 (hrd := (by simp; omega)) ?_
 intro F3 hF1 hF2
 obtain ⟨ht, hb1, hb2, hmn⟩ := hb
 have hFn := (hF1 n (by simp)).trans hb1
 have hFm := (hF1 m (by simp)).trans hb2
 have n1 : ∀ k, (n = (⟨L + 1, k⟩ : Nm)) = False := nm_out (by omega)
 have n2 : ∀ k, ((⟨L + 1, k⟩ : Nm) = n) = False := nm_out' (by omega)
 have n3 : ∀ k, (m = (⟨L + 1, k⟩ : Nm)) = False := nm_out (by omega)
 have n4 : ∀ k, ((⟨L + 1, k⟩ : Nm) = m) = False := nm_out' (by omega)
 have n5 : (m = n) = False := by simp [hmn]
 have n6 : (n = m) = False := by simp [Ne.symm hmn]
 simp only [Tryz.f65, cx, go_sem, meths]
 refine CallVC.same (copyCheck1_ok n e he _ (by omega) (by simp [hFn]; rfl)) ?_
 simp only [hFn, hFm, n1, n4, n6, go_sem]
 have e1 : List.map (fun b : UInt8 => [PV.int .u8 b.toNat]) s = s.map rowB := rfl
 rw [e1]
 simp only [List.length_map]
 refine ⟨⟨trivial, by omega, by omega⟩, ?_⟩
 refine .now (PostN.val [288] (.inr rfl) (by simp) (p := True) (v0 := .tup [.int .i64 s.length, .nilI]) ?_ trivial ?_ ?_ ⟨by omega, ?_, by omega, ?_, Nat.le_refl _, ?_, trivial⟩ ?_)
 ·simp only [resVal, resVals, resVal1, one, go_sem]
 ·simp [nmA, nmAL]
 ·simp [Tx.rn, Tx.rnL]
 ·exact BN_dead
 ·rw [kp_out (hn.imp id fun h => .inl h.2)]
  exact .ren (by simp [Tx.look, n1, n6]; rfl) (by simp [rowsNm, nmA, nmAL, Dn]; omega) (by simp [Tx.rn, Tx.rnL, sg_out (show n.l ≤ L by omega)]; simp [sg])
 ·rw [kp_at0 (by simp)]
  exact .pure (by simp [Tx.look, n4])
 ·simp [UpdAll, keys, bldU]
theorem rowB_bytes (t : List UInt8) : bytesP (t.map rowB) = t := by
 simp only [bytesP, List.map_map]
 conv => rhs; rw [← List.map_id t]
 apply List.map_congr_left
 intro x _
 simp [byteP, rowB]
theorem bString_ok {F : SF} {L nx : Nat} (n : Nm) (e : TypeId) (hn : n.l < L ∨ (n.l = L ∧ n.i < nx)) (m : Nm) (hm : m.l ≤ L) (t : List UInt8) (hsl : t.length ≤ 1000000) (hb : bldF F n e (some m) t) :
  Con Tryz.prog 68 [.ptr n 0 0] F L nx nx (.str t) [(m, .rows 5 1 false true (t.map rowB))] [n, m] := by
 refine bdy Tryz.f68 (hrd := (by simp; omega)) ?_
 intro F3 hF1 hF2
 obtain ⟨ht, hb1, hb2, hmn⟩ := hb
 have hFn := (hF1 n (by simp)).trans hb1
 have hFm := (hF1 m (by simp)).trans hb2
 have hl : 0 < t.length := List.length_pos_iff.2 ht
 have n5 : (m = n) = False := by simp [hmn]
 have n6 : (n = m) = False := by simp [Ne.symm hmn]
 have e2 : (t.map rowB).take t.length = t.map rowB := List.take_of_length_le (by simp)
 simp only [Tryz.f68, cx, hFn, hFm, e2, rowB_bytes, List.length_map, go_sem, meths]
 refine ⟨by kernel_rfl, ⟨by omega, by omega⟩, ⟨by omega, by omega⟩, okDyn_num (fun x => if x = m then 1 else 0) (by simp only [numF, List.map, n6, if_true, if_false]; kernel_rfl), ?_⟩
 exact PostF.of (p := True) (v0 := .str t) (.inr rfl) (by simp only [resVal, resVals, resVal1, one, go_sem]) trivial (by simp only [Wk]) (by simp [wkN]) rfl ⟨hm, by simp [BW, Tx.look], trivial⟩ (by simp [UpdAll, keys])
def putB (n v : Nat) : List UInt8 := (List.range n).map fun i => UInt8.ofNat (v / 256 ^ (n - 1 - i) % 256)
theorem putB_len (n v : Nat) : (putB n v).length = n := by simp [putB]
def putR (n v i : Nat) : List (List PV) := (List.range n).map fun j => [.int .u8 (if j < i then (v / 256 ^ (n - 1 - j) % 256 : Nat) else 0)]
theorem shrN (v k : Nat) {b : Int} (hb : b = 8 * k) (hk : k ≤ 7) : (v : Int).fdiv (2 ^ min b.toNat 64) = ((v / 256 ^ k : Nat) : Int) := by
 rw [shr_eq (v : Int) (by omega) (by omega)]
 have : b.toNat = 8 * k := by omega
 rw [this, Int.pow_mul]
 simp
theorem putR_set (n v i : Nat) (h : i < n) : (putR n v i).set i (PV.int .u8 (IntKind.u8.wrap ((v / 256 ^ (n - 1 - i) : Nat) : Int)) :: List.drop 1 ((putR n v i).getD i [])) = putR n v (i + 1) := by
 have hg : List.drop 1 ((putR n v i).getD i []) = [] := by simp [putR, List.getD_eq_getElem?_getD, h]
 rw [hg]
 apply List.ext_getElem?
 intro k
 rw [List.getElem?_set]
 by_cases hk : i = k
 ·subst hk
  simp only [if_true, putR, List.length_map, List.length_range, h, List.getElem?_map, List.getElem?_range h, Option.map_some]
  have : i < i + 1 := by omega
  simp only [this, if_true, IntKind.wrap_u8]
  congr 3
 ·rw [if_neg hk]
  simp only [putR, List.getElem?_map]
  cases hr : (List.range n)[k]? with
  | none => rfl
  | some j =>
   have : j = k := by
    obtain ⟨h1, h2⟩ := List.getElem?_eq_some_iff.1 hr
    simpa using h2.symm
   subst this
   have e : (j < i) = (j < i + 1) := by apply propext; omega
   simp only [Option.map_some, e]
theorem putR_str (n v : Nat) : bytesP (putR n v n) = putB n v := by
 simp only [bytesP, putR, putB, List.map_map]
 apply List.map_congr_left
 intro j hj
 simp only [List.mem_range] at hj
 simp only [Function.comp, hj, if_true, byteP, Int.toNat_natCast]
theorem put_ok {F : SF} {L nx : Nat} (n v : Nat) (h1 : 1 ≤ n) (h2 : n ≤ 7) (hv : v < 256 ^ n) :
  Con Tryz.prog 107 [.int .i64 n, .int .i64 v] F L nx nx (.tup [.str (putB n v), .int .i64 0]) [] [] := by
 refine bdy Tryz.f107 ?_
 intro F3 hF1 hF2
 have f1 : decide ((n : Int) < 1) = false := dF (by omega)
 have f2 : decide ((7 : Int) < (n : Int)) = false := dF (by omega)
 have f3 : decide ((v : Int) < 0) = false := dF (by omega)
 have f4 : ((v : Int).fdiv (2 ^ min ((8 : Int) * (n : Int)).toNat 64) != 0) = false := by
  rw [shrN v n rfl h2, Nat.div_eq_of_lt hv]; rfl
 simp only [Tryz.f107, cx, f1, f2, f3, f4, go_sem, meths]
 repeat refine sd1 ?_
 refine loopK.intro _ _ (I := fun i : Nat => ⟨[some (.int .i64 n), some (.int .i64 v), none, none, none, none, some (.sl ⟨L + 1, 640⟩ 0 n), none, none, none, none, none, none, none, none, none, none, none, none, none, none, none, none, none, none, none, none, none, some (.int .i64 n), some (.int .i64 i), none, none, none, none, none, none, none, none, none, none, none, none, none, none, none, none],
  [(⟨L + 1, 640⟩, .rows 5 1 true true (putR n v i))], 1000 * (i + 1)⟩) (pre := fun i => i ≤ n) (μ := fun i => n - i) 0 (by omega) ?_ ?_
 ·refine Sub.of (hfz hF2) (by simp only [go_sem, subT, and_self, Int.natCast_zero]) ?_ (by simp only [go_sem, subK, and_self, true_or, or_true, List.not_mem_nil, List.mem_cons]) (by simp)
  simp [subH, Tx.look, putR, List.map_const']
 ·intro i hi
  have lr : (putR n v i).length = n := by simp [putR]
  by_cases hlt : i < n
  ·have f5 : decide ((i : Int) < (n : Int)) = true := dT (by omega)
   have f6 : (v : Int).fdiv (2 ^ min ((8 : Int) * ((n : Int) - 1 - (i : Int))).toNat 64) = ((v / 256 ^ (n - 1 - i) : Nat) : Int) := shrN v (n - 1 - i) (by omega) (by omega)
   simp only [f5, f6, lr, putR_set _ _ _ hlt, go_sem]
   repeat refine sd1 ?_
   refine ⟨i + 1, by omega, by omega, ?_⟩
   refine Sub.of (hfz hF2) (by simp only [go_sem, subT, and_self, Int.natCast_succ]) ?_ (by simp only [go_sem, subK, and_self, true_or, or_true, List.not_mem_nil, List.mem_cons]) (by simp; omega)
   simp [subH, Tx.look]
  ·have f5 : decide ((i : Int) < (n : Int)) = false := dF (by omega)
   have e : i = n := by omega
   subst e
   have e2 : List.take i (putR i v i) = putR i v i := List.take_of_length_le (by omega)
   simp only [f5, lr, e2, putR_str, go_sem]
   refine ⟨⟨by omega, fun row hr => ?_⟩, ?_⟩
   ·simp only [putR, List.mem_map] at hr
    obtain ⟨j, _, rfl⟩ := hr
    exact ⟨_, rfl⟩
   ·exact PostF.same (p := True) (.inr rfl) (by simp only [resVal, resVals, resVal1, one, go_sem]) trivial (by simp [Tx.nf, nfl]) (by simp [UpdAll])
end Go.Proofs.YtaacfnngodhecaaGreatDoor
end
