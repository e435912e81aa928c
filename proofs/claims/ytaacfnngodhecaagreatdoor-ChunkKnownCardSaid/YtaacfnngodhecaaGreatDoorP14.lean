/- Lemmas for the walk: WK18, U41, WK19, WK20. -/
import Derived.Test.YtaacfnngodhecaaGreatDoorP13
import Derived.Test.YtaacfnngodhecaaGreatDoorP10
import Derived.Test.YtaacfnngodhecaaGreatDoorP11
set_option linter.all false
section
namespace Go.Proofs.YtaacfnngodhecaaGreatDoor
open Go.Tx
set_option maxRecDepth 100000
set_option maxHeartbeats 16000000
def tzL (s : List UInt8) : List UInt8 := s.dropWhile (· == 0)
def tzR (s : List UInt8) : List UInt8 := (tzL s.reverse).reverse
theorem tzR_zero (t : List UInt8) : tzR (t ++ [0]) = tzR t := by
 unfold tzR tzL
 rw [List.reverse_append]
 simp [List.dropWhile]
theorem tzR_stop (t : List UInt8) {b : UInt8} (h : (b == 0) = false) : tzR (t ++ [b]) = t ++ [b] := by
 unfold tzR tzL
 rw [List.reverse_append]
 simp [h]
theorem u8_eq (b : UInt8) : ((b.toNat : Int) == 0) = (b == 0) := by
 rw [Bool.eq_iff_iff, beq_iff_eq, beq_iff_eq]
 constructor
 ·intro h
  have : b.toNat = 0 := by omega
  exact UInt8.toNat_inj.1 this
 ·rintro rfl; rfl
theorem tzR_le (s : List UInt8) : (tzR s).length ≤ s.length := by
 have := (List.dropWhile_suffix (l := s.reverse) (· == 0)).length_le
 simpa [tzR, tzL] using this
theorem sTrimL_ok {F : SF} {L nx : Nat} (s : List UInt8) (hs : s.length ≤ 1000000) : Con Tryz.prog 145 [.str s, .int .u8 0] F L nx nx (.str (tzL s)) [] [] := by
 refine bdy Tryz.f145 ?_
 intro F3 hF1 hF2
 simp only [Tryz.f145, cx, go_sem, meths]
 repeat refine sd2 ?_
 refine loopK.intro _ _ (I := fun t : List UInt8 => ⟨[some (.str t), some (.int .u8 0)] ++ oz 15, [], 1000 * (s.length - t.length + 1)⟩) (pre := fun t => t.length ≤ s.length ∧ tzL t = tzL s) (μ := fun t => t.length) s ⟨Nat.le_refl _, rfl⟩ ?_ ?_
 ·exact Sub.of (hfz hF2) (by simp only [go_sem, subT, and_self]; try trivial) trivial trivial (by simp)
 ·rintro t ⟨h1, h2⟩
  cases t with
  | nil =>
   have f1 : decide ((0 : Int) < ((0 : Nat) : Int)) = false := rfl
   have f3 : tzL s = [] := by rw [← h2]; rfl
   rw [f3]
   simp only [f1, Nat.add_assoc, go_sem]
   repeat refine sd2 ?_
   exact PostF.rs (v0 := .str []) (.inr rfl)
  | cons b t =>
   have f1 : decide ((0 : Int) < ((t.length + 1 : Nat) : Int)) = true := dT (by omega)
   have f2 := u8_eq b
   simp only [List.length_cons] at h1
   cases hb : b == 0 with
   | true =>
    rw [hb] at f2
    have f3 : tzL (b :: t) = tzL t := by simp [tzL, List.dropWhile, hb]
    have f4 : List.take (t.length + 1 - 1) t = t := by simp
    simp only [f1, f2, f4, Nat.add_assoc, go_sem]
    repeat refine sd2 ?_
    refine ⟨t, ⟨by omega, by rw [← h2, f3]⟩, by omega, Sub.of (hfz hF2) (by simp only [go_sem, subT, and_self]; try trivial) trivial (by simp [subK]) (by simp only []; omega)⟩
   | false =>
    rw [hb] at f2
    have f3 : tzL s = b :: t := by rw [← h2]; simp [tzL, List.dropWhile, hb]
    rw [f3]
    simp only [f1, f2, Nat.add_assoc, go_sem]
    repeat refine sd2 ?_
    exact PostF.rs (v0 := .str (b :: t)) (.inr rfl)
theorem sTrimR_ok {F : SF} {L nx : Nat} (s : List UInt8) (hs : s.length ≤ 1000000) : Con Tryz.prog 146 [.str s, .int .u8 0] F L nx nx (.str (tzR s)) [] [] := by
 refine bdy Tryz.f146 ?_
 intro F3 hF1 hF2
 simp only [Tryz.f146, cx, go_sem, meths]
 repeat refine sd2 ?_
 refine loopK.intro _ _ (I := fun t : List UInt8 => ⟨[some (.str t), some (.int .u8 0)] ++ oz 21, [], 1000 * (s.length - t.length + 1)⟩) (pre := fun t => t.length ≤ s.length ∧ tzR t = tzR s) (μ := fun t => t.length) s ⟨Nat.le_refl _, rfl⟩ ?_ ?_
 ·exact Sub.of (hfz hF2) (by simp only [go_sem, subT, and_self]; try trivial) trivial trivial (by simp)
 ·rintro t ⟨h1, h2⟩
  rcases List.eq_nil_or_concat t with ht | ⟨t', b, ht⟩
  ·subst ht
   have f1 : decide ((0 : Int) < ((0 : Nat) : Int)) = false := rfl
   have f3 : tzR s = [] := by rw [← h2]; rfl
   rw [f3]
   simp only [f1, Nat.add_assoc, go_sem]
   repeat refine sd2 ?_
   exact PostF.rs (v0 := .str []) (.inr rfl)
  ·rw [List.concat_eq_append] at ht
   have hl : t.length = t'.length + 1 := by rw [ht]; simp
   have f1 : decide ((0 : Int) < (t.length : Int)) = true := dT (by omega)
   have f5 : t.getD ((t.length : Int) - 1).toNat 0 = b := by
    rw [show ((t.length : Int) - 1).toNat = t'.length by omega, ht]; simp
   have f2 := u8_eq b
   cases hb : b == 0 with
   | true =>
    rw [hb] at f2
    have hb0 : b = 0 := eq_of_beq hb
    have f3 : tzR t = tzR t' := by rw [ht, hb0]; exact tzR_zero t'
    have f4 : List.take (((t.length : Int) - 1).toNat - 0) t = t' := by
     rw [show ((t.length : Int) - 1).toNat - 0 = t'.length by omega, ht]; simp
    simp only [f1, f2, f4, f5, List.drop_zero, Nat.add_assoc, go_sem]
    repeat refine sd2 ?_
    refine ⟨t', ⟨by omega, by rw [← h2, f3]⟩, by omega, Sub.of (hfz hF2) (by simp only [go_sem, subT, and_self]; try trivial) trivial (by simp [subK]) (by simp only []; omega)⟩
   | false =>
    rw [hb] at f2
    have f3 : tzR s = t := by rw [← h2, ht]; exact tzR_stop t' hb
    rw [f3]
    simp only [f1, f2, f5, Nat.add_assoc, go_sem]
    repeat refine sd2 ?_
    exact PostF.rs (v0 := .str t) (.inr rfl)
def trimZ (s : List UInt8) : List UInt8 := if s = [] then [] else tzL (tzR s)
theorem sTrim_ok {F : SF} {L nx : Nat} (s : List UInt8) (hs : s.length ≤ 1000000) : Con Tryz.prog 115 [.str s, .str [0]] F L nx nx (.str (trimZ s)) [] [] := by
 refine bdy Tryz.f115 ?_
 intro F3 hF1 hF2
 have hr := fun F L nx => sTrimR_ok (F := F) (L := L) (nx := nx) s hs
 have hl := fun F L nx => sTrimL_ok (F := F) (L := L) (nx := nx) (tzR s) (by have := tzR_le s; omega)
 unfold trimZ
 by_cases h0 : s = []
 ·subst h0
  simp only [Tryz.f115, cx, if_true, go_sem, meths]
  repeat refine sd2 ?_
  exact PostF.rs (v0 := .str []) (.inr rfl)
 ·rw [if_neg h0]
  have k1 : (s == []) = false := by cases s with
   | nil => exact absurd rfl h0
   | cons a l => rfl
  have k2 : (([0] : List UInt8) == []) = false := rfl
  have k3 : (((1 : Nat) : Int) == 1) = true := rfl
  have k4 : decide ((0 : Int) < 128) = true := rfl
  have k5 : (((0 : UInt8).toNat : Nat) : Int) = 0 := rfl
  simp only [Tryz.f115, cx, k1, k2, k3, k4, k5, go_sem, meths]
  repeat refine sd2 ?_
  refine CallVC.same (hr _ _ _) ?_
  simp only [k5, go_sem]
  repeat refine sd2 ?_
  refine CallVC.same (hl _ _ _) ?_
  simp only [go_sem]
  refine ⟨okDyn_num (fun x => x.i) (by kernel_rfl), ?_⟩
  exact PostF.rs (v0 := .str (tzL (tzR s))) (.inr rfl)
theorem tzL_nil {s : List UInt8} : tzL s = [] ↔ ∀ b ∈ s, b = 0 := by
 induction s with
 | nil => simp [tzL]
 | cons a l ih =>
  unfold tzL at ih ⊢
  rw [List.dropWhile_cons]
  by_cases h : a = 0
  ·subst h; simpa using ih
  ·simp [h]
theorem tzR_eq {s : List UInt8} (h : tzL (tzR s) = []) : ∀ b ∈ s, b = 0 := by
 intro x hx
 have h1 := tzL_nil.1 h
 have h2 : x ∈ s.reverse.takeWhile (· == 0) ++ s.reverse.dropWhile (· == 0) := by rw [List.takeWhile_append_dropWhile]; simpa using hx
 rcases List.mem_append.1 h2 with h2 | h2
 ·have := List.all_eq_true.1 (List.all_takeWhile (p := (· == (0 : UInt8))) (l := s.reverse)) x h2
  exact eq_of_beq this
 ·exact h1 x (by simpa [tzR, tzL] using h2)
theorem trimZ_nil (s : List UInt8) : (trimZ s == []) = s.all (· == 0) := by
 rw [Bool.eq_iff_iff, List.all_eq_true]
 unfold trimZ
 constructor
 ·intro h
  split at h
  ·rename_i hs; subst hs; simp
  ·intro x hx
   have : tzL (tzR s) = [] := by
    cases hq : tzL (tzR s) with
    | nil => rfl
    | cons a l => rw [hq] at h; cases h
   rw [tzR_eq this x hx]; rfl
 ·intro h
  split
  ·rfl
  ·have h2 : tzL s.reverse = [] := tzL_nil.2 fun b hb => eq_of_beq (h b (by simpa using hb))
   rw [tzR, h2]; rfl
end Go.Proofs.YtaacfnngodhecaaGreatDoor
end
section
namespace Go.Tx
open Go.Sx (lt_of_get)
theorem StepR.reCell {E : Env} {F : SF} {w : World} (h : HRel E F w) {n : Nm} {e : TypeId} {wd : Nat} {o p : Bool} {rs rs1 : List (List PV)} (hn : F n = some (.rows e wd o p rs)) (l1 : rs1.length = rs.length)
  (hl : ∀ (r : Nat) (row row1 : List PV), rs[r]? = some row → rs1[r]? = some row1 → row1.length = row.length)
  (hc : ∀ (r : Nat) (row row1 : List PV) (c : Nat) (x y : PV) (u : Value), rs[r]? = some row → rs1[r]? = some row1 → row[c]? = some x → row1[c]? = some y → VR w (Zn E F w) (EE E p) x u → VR w (Zn E F w) E y u) :
  StepR E F w E (F.set n (.rows e wd o false rs1)) w := by
 let F4 : SF := F.set n (.rows e wd o false rs1)
 have hown : ∀ m b, F4 m = some b → b.own = true → ∃ c, F m = some c ∧ c.own = true := by
  intro m b hb ho
  simp only [F4, SF.set] at hb
  split at hb
  ·rename_i he
   subst he
   injection hb with hb; subst hb
   exact ⟨_, hn, ho⟩
  ·exact ⟨b, hb, ho⟩
 have hlive : ∀ m b, F4 m = some b → b.live = true → ∃ c, F m = some c ∧ c.live = true := by
  intro m b hb ho
  simp only [F4, SF.set] at hb
  split at hb
  ·rename_i he
   subst he
   exact ⟨_, hn, rfl⟩
  ·exact ⟨b, hb, ho⟩
 have hzone : ∀ q, Zn E F w q → Zn E F4 w q := by
  rintro q ⟨k1, k2⟩
  refine ⟨k1, fun m b i hm ho hi hz => ?_⟩
  obtain ⟨c, c1, c2⟩ := hown m b hm ho
  exact k2 m c i c1 c2 hi hz
 have hX : Ext E w (Zn E F w) E w (Zn E F4 w) := ⟨Env.le.refl _, hzone, fun _ _ => rfl⟩
 have hrel : HRel E F4 w := by
  refine ⟨fun m b hm => ?_, fun m1 m2 b c i j h1 h2 h12 ho hl hi hj hz1 hz2 => ?_⟩
  ·by_cases hmn : m = n
   ·subst hmn
    have hb : b = .rows e wd o false rs1 := by
     simp only [F4, SF.set, if_true] at hm; injection hm with hm; exact hm.symm
    subst hb
    obtain ⟨i, hi, hor⟩ := h.blk m _ hn
    refine ⟨i, hi, ?_⟩
    rcases hor with ⟨z1, rfl, z3, z4⟩ | ⟨hz, hRr⟩
    ·refine .inl ⟨z1, ?_, z3, z4⟩
     exact List.eq_nil_of_length_eq_zero l1
    ·refine .inr ⟨hz, ?_⟩
     obtain ⟨cs, fz, b1, b2, b3, b4⟩ := hRr.cells
     have hlen1 : ∀ row ∈ rs1, row.length = wd := by
      intro row hrow
      obtain ⟨r, hr⟩ := List.getElem?_of_mem hrow
      have hlt := lt_of_get hr
      have hr0 := List.getElem?_eq_getElem (l := rs) (i := r) (by omega)
      rw [hl r _ row hr0 hr]
      exact hRr.len _ (List.mem_of_getElem? hr0)
     refine ⟨hRr.wd_eq, hRr.o0, hRr.wd_pos, hlen1, by rw [l1]; exact hRr.le, hRr.cap, cs, fz, b1, b2, b3, ?_⟩
     refine (VRr_iff hlen1).2 fun r row1 c y hr1 hc1 => ?_
     have hlt := lt_of_get hr1
     have hr0 := List.getElem?_eq_getElem (l := rs) (i := r) (by omega)
     have hct := lt_of_get hc1
     have hc0 := List.getElem?_eq_getElem (l := rs[r]) (i := c) (by rw [← hl r _ row1 hr0 hr1]; exact hct)
     obtain ⟨u, a1, a2, a3⟩ := (VRr_iff hRr.len).1 b4 r _ c _ hr0 hc0
     exact ⟨u, a1, a2, VR.mono hX _ _ (hc r _ row1 c _ y u hr0 hr1 hc0 hc1 a3)⟩
   ·have hm' : F m = some b := by simp only [F4, SF.set, if_neg hmn] at hm; exact hm
    exact (h.blk m b hm').mono hX fun _ _ _ => rfl
  ·obtain ⟨c1, d1, d2⟩ := hown m1 b h1 ho
   obtain ⟨c2, e1, e2⟩ := hlive m2 c h2 hl
   exact h.sep m1 m2 c1 c2 i j d1 e1 h12 d2 e2 hi hj hz1 hz2
 refine ⟨Env.le.refl _, hrel, rfl, rfl, rfl, Nat.le_refl _, fun _ _ _ => rfl, fun m b i hm ho hi hz => ?_⟩
 obtain ⟨c, c1, c2⟩ := hown m b hm ho
 exact .inr ⟨m, c, i, c1, c2, hi, hz, rfl⟩
theorem Sub.nilCell {L : Nat} {F0 : SF} {t : List (Option PV)} {H : List (Nm × SBlk)} {nx : Nat} {n : Nm} {e e2 : TypeId} {wd wd2 : Nat} {o p : Bool} {row row1 : List PV} (hwd : 0 < wd2) (hn : look F0 H n = some (.rows e wd o p [row])) (hne : n ≠ ⟨L, nx⟩) (hl : row1.length = row.length)
  (hc : ∀ c : Nat, row1[c]? = row[c]? ∨ (row[c]? = some PV.nilS ∧ row1[c]? = some (PV.sl ⟨L, nx⟩ 0 0))) :
  Sub L F0 ⟨t, H, nx⟩ ⟨t, updH H [(⟨L, nx⟩, .rows e2 wd2 true true []), (n, .rows e wd o false [row1])], nx + 1⟩ := by
 intro B E0 w0 E a w hd0 hR
 have hf := (hR.fresh hd0).1 nx (Nat.le_refl _)
 have hS := StepR.emptyName hR.step.rel hf e2 hwd true none
 have hn1 : ((look F0 H).set ⟨L, nx⟩ (.rows e2 wd2 true true [])) n = some (.rows e wd o p [row]) := by simp only [SF.set, if_neg hne]; exact hn
 have hEE : Ext (EE (E.set ⟨L, nx⟩ ⟨0, 0, wd2, 0, true, none⟩) p) w (Zn (E.set ⟨L, nx⟩ ⟨0, 0, wd2, 0, true, none⟩) ((look F0 H).set ⟨L, nx⟩ (.rows e2 wd2 true true [])) w) (E.set ⟨L, nx⟩ ⟨0, 0, wd2, 0, true, none⟩) w (Zn (E.set ⟨L, nx⟩ ⟨0, 0, wd2, 0, true, none⟩) ((look F0 H).set ⟨L, nx⟩ (.rows e2 wd2 true true [])) w) := by
  refine ⟨?_, fun _ h => h, fun _ _ => rfl⟩
  cases p
  ·exact Env.le.refl _
  ·intro k i hk; cases hk
 have hS2 := StepR.reCell hS.rel hn1 (rs1 := [row1]) rfl (by
   intro r row' row1' h1 h2
   cases r with
   | zero => simp at h1 h2; subst h1; subst h2; exact hl
   | succ r => simp at h1) (by
   intro r row' row1' c x y u h1 h2 h3 h4 h5
   cases r with
   | succ r => simp at h1
   | zero =>
    simp at h1 h2; subst h1; subst h2
    rcases hc c with h | ⟨ha, hb⟩
    ·rw [h4, h3] at h; injection h with h; subst h
     exact VR.mono hEE _ _ h5
    ·rw [h3] at ha; injection ha with ha; subst ha
     rw [h4] at hb; injection hb with hb; subst hb
     simp only [VR] at h5 ⊢
     subst h5
     exact ⟨_, Env.set_self _ _ _, .inl ⟨rfl, trivial, rfl⟩⟩)
 have hT := hS.trans hS2
 have hlk : look F0 (updH H [(⟨L, nx⟩, SBlk.rows e2 wd2 true true []), (n, .rows e wd o false [row1])]) = ((look F0 H).set ⟨L, nx⟩ (.rows e2 wd2 true true [])).set n (.rows e wd o false [row1]) := by rw [look_updH]; rfl
 refine ⟨E.set ⟨L, nx⟩ ⟨0, 0, wd2, 0, true, none⟩, by rw [hlk]; exact hR.step.trans hT, ⟨by simpa using hR.tmps.size, fun i v hv => ?_⟩, by rw [hlk]; exact hR.marks.mono hT.ext, fun m h1 h2 => ?_⟩
 ·obtain ⟨v', a1, a2⟩ := hR.tmps.val i v hv
  exact ⟨v', a1, by rw [hlk]; exact VR.mono hT.ext _ _ a2⟩
 ·by_cases he : m = ⟨L, nx⟩
  ·subst he; exact ⟨rfl, by simp⟩
  ·rw [Env.set_ne E _ he] at h2
   have := hR.news m h1 h2
   exact ⟨this.1, by simp only at this ⊢; omega⟩
end Go.Tx
end
section
namespace Go.Proofs.YtaacfnngodhecaaGreatDoor
open Go.Tx
set_option maxRecDepth 100000
set_option maxHeartbeats 16000000
theorem negand (n : Nat) (h : n < 65536) : Sx.ibits .and .i64 (0 - (n : Int)) 3 = (((4 - n % 4) % 4 : Nat) : Int) := by
 rw [Int.zero_sub]
 show IntKind.i64.wrap ((BitVec.ofInt 64 (-(n : Int)) &&& BitVec.ofInt 64 ((3 : Nat) : Int)).toNat : Int) = _
 rw [BitVec.ofInt_natCast, BitVec.toNat_and, BitVec.toNat_ofNat, BitVec.toNat_ofInt]
 rw [show 3 % 2 ^ 64 = 2 ^ 2 - 1 from rfl, Nat.and_two_pow_sub_one_eq_mod, IntKind.wrap_i64]
 omega
structure CkAt (s : List UInt8) (p n : Nat) : Prop where
 h4 : p + 4 ≤ s.length
 hn : getB ((s.drop (p + 2)).take 2) = n
 n4 : 4 ≤ n
 hk : p + n + (4 - n % 4) % 4 ≤ s.length
 hz : ((s.drop (p + n)).take ((4 - n % 4) % 4)).all (· == 0) = true
def ckOf (s : List UInt8) (p n : Nat) : Ckx := ⟨getB ((s.drop p).take 1), getB ((s.drop (p + 1)).take 1), (s.drop (p + 4)).take (n - 4)⟩
def ckNx (p n : Nat) : Nat := p + n + (4 - n % 4) % 4
noncomputable def cxq (L : Nat) (y : YRec) : Cx := ⟨Tryz.prog, tys, meths, false, L, none, [y], [], false, [], fun _ => False⟩
theorem cxqOk (L : Nat) (y : YRec) : (cxq L y).Ok := ⟨tysOk, fieldsOk, mixedOk, methsOk⟩
def pkV (a b c : Nat) (x : PV) : List PV := [.int .i64 a, .int .i64 b, .int .i64 c, x]
theorem chunks1_ok {F : SF} {L nx : Nat} (s : List UInt8) (hl : s.length ≤ 1000000) (m r nd : Nm) (hm : m.l ≤ L) (hrx : r.l < L ∨ (r.l = L ∧ r.i < nx)) (hdx : nd.l < L ∨ (nd.l = L ∧ nd.i < nx)) (hmr : m ≠ r) (hmd : m ≠ nd) (hrd : r ≠ nd) (eb : TypeId) (ob pb : Bool) (hFm : F m = some (.rows eb 1 ob pb [[.ptr r 0 0]]))
  (pos len : Nat → Nat) (N : Nat) (hFr : F r = some (rdB s (pos 0))) (a b c : Nat) (hFd : F nd = some (.rows 24 4 true true [pkV a b c .nilS])) (hat : ∀ i, i < N → CkAt s (pos i) (len i)) (hnx : ∀ i, i < N → pos (i + 1) = ckNx (pos i) (len i)) (hend : pos N = s.length)
  (y : YRec)
  (hy : ∀ (F3 : SF) (i q nx3 : Nat), i < N → (∃ o p, F3 nd = some (.rows 24 4 o p [pkV a b c (.sl ⟨L + 1, q⟩ 0 i)]) ∧ o = true) → F3 ⟨L + 1, q⟩ = some (.rows 34 3 true true ((List.range i).map fun j => (ckOf s (pos j) (len j)).row)) → q < nx3 →
   YCon Tryz.prog y [.agg (ckOf s (pos i) (len i)).row] F3 (L + 1) nx3 (nx3 + 1) (.bool true) [(nd, .rows 24 4 true false [pkV a b c (.sl ⟨L + 1, nx3⟩ 0 (i + 1))]), (⟨L + 1, q⟩, .dead), (⟨L + 1, nx3⟩, .rows 34 3 true true ((List.range (i + 1)).map fun j => (ckOf s (pos j) (len j)).row))] [nd, ⟨L + 1, q⟩]) :
  ICon Tryz.prog [y] 114 [.fn (.yield y.l) [] [], .ptr m 0 0] F L nx (nx + 1) (.tup []) [(r, rdB s s.length), (nd, .rows 24 4 true false [pkV a b c (.sl ⟨L, nx⟩ 0 N)]), (⟨L, nx⟩, .rows 34 3 true true ((List.range N).map fun j => (ckOf s (pos j) (len j)).row))] [m, r, nd] := by
 have hr : r.l ≤ L := by omega
 have hd : nd.l ≤ L := by omega
 refine ICon.bodyN (cxqOk (L + 1) y) rfl (fn := Tryz.f114) (c := Tryz.f114.body.getD .skip) (by kernel_rfl) (by rfl) (by kernel_rfl) rfl (by simp; omega) ?_
 intro F3 hF1 hF2
 have kr : F3 r = some (rdB s (pos 0)) := (hF1 r (by simp)).trans hFr
 have km : F3 m = some (.rows eb 1 ob pb [[.ptr r 0 0]]) := (hF1 m (by simp)).trans hFm
 have kd : F3 nd = some (.rows 24 4 true true [pkV a b c .nilS]) := (hF1 nd (by simp)).trans hFd
 have r1 : ∀ k, (r = (⟨L + 1, k⟩ : Nm)) = False := nm_out hr
 have r2 : ∀ k, ((⟨L + 1, k⟩ : Nm) = r) = False := nm_out' hr
 have m1 : ∀ k, (m = (⟨L + 1, k⟩ : Nm)) = False := nm_out hm
 have m2 : ∀ k, ((⟨L + 1, k⟩ : Nm) = m) = False := nm_out' hm
 have d1 : ∀ k, (nd = (⟨L + 1, k⟩ : Nm)) = False := nm_out hd
 have d2 : ∀ k, ((⟨L + 1, k⟩ : Nm) = nd) = False := nm_out' hd
 have e1 : (m = r) = False := eq_false hmr
 have e2 : (m = nd) = False := eq_false hmd
 have e3 : (r = nd) = False := eq_false hrd
 have e4 : (nd = r) = False := eq_false (Ne.symm hrd)
 have e5 : (r = m) = False := eq_false (Ne.symm hmr)
 have hl9 : ∀ i, i ≤ N → pos i ≤ s.length := by
  intro i hi
  by_cases h : i < N
  ·have := (hat i h).h4; omega
  ·have : i = N := by omega
   rw [this, hend]; exact Nat.le_refl _
 simp only [Tryz.f114, cxq, go_sem, meths]
 refine loopK.intro _ _ (I := fun z : Nat × Nat => ⟨[some (.fn (.yield y.l) [] []), some (.ptr m 0 0)] ++ oz 42, [(r, rdB s (pos z.1)), (nd, .rows 24 4 true false [pkV a b c (.sl ⟨L + 1, z.2⟩ 0 z.1)]), (⟨L + 1, z.2⟩, .rows 34 3 true true ((List.range z.1).map fun j => (ckOf s (pos j) (len j)).row))], 10000 * (z.1 + 1)⟩)
  (pre := fun z => z.1 ≤ N ∧ z.2 < 10000 * (z.1 + 1)) (μ := fun z => N - z.1) (0, 0) ⟨by simp, by simp⟩ ?_ ?_
 ·refine Sub.trans (Sub.nilCell (n := nd) (e := 24) (e2 := 34) (wd := 4) (wd2 := 3) (o := true) (p := true) (row := pkV a b c .nilS) (row1 := pkV a b c (.sl ⟨L + 1, 0⟩ 0 0)) (by omega) (by simpa [Tx.look] using kd) (by simp [d1]) rfl ?_) ?_
  ·intro k
   rcases k with _ | _ | _ | _ | k
   ·exact .inl rfl
   ·exact .inl rfl
   ·exact .inl rfl
   ·exact .inr ⟨rfl, rfl⟩
   ·exact .inl rfl
  ·refine Sub.of (hfz hF2) (by simp only [go_sem, subT, and_self]; try trivial) ?_ ?_ ?_
   ·simp [subH, Tx.look, updH, setH, r1, d1, e3, kr]
   ·simp [subK, keys, updH, setH, d1]
   ·simp
 ·rintro ⟨i, q⟩ ⟨hi, hq⟩
  simp only at hi hq ⊢
  have hpi := hl9 i hi
  obtain ⟨q_n1, q_n2, q_n3, q_n4, q_n5⟩ := nqL L (i := i) (p := q) (by omega)
  by_cases hlt : i < N
  ·obtain ⟨c1, c2, c3, c4, c5⟩ := hat i hlt
   have hnx1 := hnx i hlt
   unfold ckNx at hnx1
   obtain ⟨p, hp⟩ : ∃ p, p = pos i := ⟨_, rfl⟩
   obtain ⟨n, hn⟩ : ∃ n, n = len i := ⟨_, rfl⟩
   have hrow : (ckOf s (pos i) (len i)).row = [.int .i64 (getB ((s.drop p).take 1)), .int .i64 (getB ((s.drop (p + 1)).take 1)), .str ((s.drop (p + 4)).take (n - 4))] := by rw [hp, hn]; rfl
   simp only [← hp, ← hn] at c1 c2 c3 c4 c5 hnx1
   rw [← hp] at hpi
   have f1 : decide ((p : Int) < (s.length : Int)) = true := dT (by omega)
   rw [← hp]
   simp only [f1, km, rdB, r1, m1, e1, e2, e3, Nat.add_assoc, Nat.add_zero, go_sem]
   refine ⟨by kernel_rfl, okDyn_num (fun x => if x = m then 1 else 2) (by simp only [numF, List.map, e5, if_true, if_false]; kernel_rfl), by kernel_rfl, ?_⟩
   refine CallVC.same (number_ok r (by omega) s p 1 1 rfl (by omega) (by omega) (by omega) hl (by simp [rdB])) ?_
   simp only [km, rdB, r1, m1, e1, e2, e3, Nat.add_assoc, go_sem]
   refine CallVC.same (number_ok r (by omega) s (p + 1) 1 1 rfl (by omega) (by omega) (by omega) hl (by simp [rdB])) ?_
   simp only [km, rdB, r1, r2, m1, d2, e1, e2, e3, q_n1, Nat.add_assoc, go_sem]
   refine ⟨okDyn_num (fun x => if x = m then 1 else if x = r then 2 else 3) (by simp only [numF, List.map, e5, r2, m2, if_true, if_false]; kernel_rfl), ?_⟩
   refine CallVC.same (number_ok r (by omega) s (p + 2) 2 2 rfl (by omega) (by omega) (by omega) hl (by simp [rdB])) ?_
   have hn6 : n < 65536 := by
    rw [← c2]
    have := getB_lt ((s.drop (p + 2)).take 2)
    have h2 : ((s.drop (p + 2)).take 2).length = 2 := by rw [List.length_take, List.length_drop]; omega
    rw [h2] at this; exact this
   have f2 : decide ((n : Int) ≥ 4) = true := dT (by omega)
   have f2' : decide ((4 : Int) ≤ n) = true := dT (by omega)
   have f3 := negand n hn6
   obtain ⟨k, hk⟩ : ∃ k, k = (4 - n % 4) % 4 := ⟨_, rfl⟩
   rw [← hk] at c4 c5 hnx1 f3
   simp only [c2, f2, rdB, r1, e3, Nat.add_assoc, go_sem]
   refine CallVC.same must_ok ?_
   simp only [km, m1, e1, e2, Nat.add_assoc, go_sem]
   refine ⟨⟨by omega, by omega⟩, ?_⟩
   refine CallVC.same (rtake_ok r (by omega) s (p + 4) (n - 4) ((n : Int) - 4) (by omega) (by omega) hl (by simp [rdB])) ?_
   have g1 : p + 4 + (n - 4) = p + n := by omega
   have g2 : p + (4 + (n - 4)) = p + n := by omega
   simp only [f3, g1, km, rdB, r1, r2, m1, d2, e1, e2, e3, q_n1, Nat.add_assoc, go_sem]
   refine ⟨⟨by omega, by omega⟩, ?_⟩
   refine CallVC.same (rtake_ok r (by omega) s (p + n) k (k : Int) rfl (by omega) hl (by simp [rdB])) ?_
   simp only [rdB, r1, e3, Nat.add_assoc, go_sem]
   have hT := trimZ_nil ((s.drop (p + n)).take k)
   rw [c5] at hT
   refine CallVC.same (sTrim_ok ((s.drop (p + n)).take k) (by rw [List.length_take]; omega)) ?_
   simp only [hT, Nat.add_assoc, go_sem]
   refine CallVC.same must_ok ?_
   simp only [r2, d2, q_n1, Nat.add_assoc, go_sem]
   have hyy := fun F3 q nx3 => hy F3 i q nx3 hlt
   rw [hrow] at hyy
   refine YVC.one (hyy _ q _ ⟨true, false, by simp [e4], rfl⟩ (by simp [r2, d2]) (by omega)) ?_
   simp only [r2, d1, d2, e4, q_n1, q_n2, kS3, Nat.add_assoc, go_sem]
   have hnx2 : pos (i + 1) = p + (n + k) := by rw [hnx1]; omega
   refine ⟨(i + 1, 10000 * (i + 1) + 1056), ⟨by simp only []; omega, by simp only []; omega⟩, by simp only []; omega, ?_⟩
   refine Sub.of (hfz hF2) (by simp only [go_sem, subT, and_self]; try trivial) ?_ (by simp [subK, keys]) (by simp only []; omega)
   simp only [subH, Tx.look, hnx2, List.range_succ, r1, r2, d1, d2, e3, e4, q_n1, kS3, go_sem]
  ·have hin : i = N := by omega
   subst hin
   have f1 : decide ((s.length : Int) < (s.length : Int)) = false := dF (by omega)
   rw [hend]
   simp only [f1, km, rdB, r1, m1, e1, e2, e3, Nat.add_assoc, Nat.add_zero, go_sem]
   refine ⟨by kernel_rfl, okDyn_num (fun x => if x = m then 1 else 2) (by simp only [numF, List.map, e5, if_true, if_false]; kernel_rfl), ?_⟩
   refine .now (PostN.val [q] (.inl rfl) (by simp) (p := True) (v0 := .tup []) ?_ trivial ?_ ?_ ⟨hr, ?_, hd, ?_, Nat.le_refl _, ?_, trivial⟩ ?_)
   ·simp only [resVal, resVals, one, go_sem]
   ·simp [nmA, nmAL]
   ·simp [Tx.rn, Tx.rnL]
   ·rw [kp_out (hrx.imp id fun h => .inl h.2)]
    exact .pure (by simp [Tx.look])
   ·rw [kp_out (hdx.imp id fun h => .inl h.2)]
    exact .ren (by simp [Tx.look, e4]; rfl) (by simp [rowsNm, nmA, nmAL, Dn, pkV]) (by simp [Tx.rn, Tx.rnL, pkV, sg, List.idxOf, List.findIdx, List.findIdx.go])
   ·rw [kp_at0 (by simp)]
    exact .pure (by simp [Tx.look, r2, d2])
   ·simp [UpdAll, keys]
def CkNo (s : List UInt8) (p : Nat) : Prop := p < s.length ∧ (s.length < p + 4 ∨ ∃ n, getB ((s.drop (p + 2)).take 2) = n ∧ p + 4 ≤ s.length ∧ (n < 4 ∨ (4 ≤ n ∧ (s.length < p + n + (4 - n % 4) % 4 ∨ (p + n + (4 - n % 4) % 4 ≤ s.length ∧ ((s.drop (p + n)).take ((4 - n % 4) % 4)).all (· == 0) = false)))))
theorem chunks1_die {F : SF} {L : Nat} (s : List UInt8) (hl : s.length ≤ 1000000) (m r nd : Nm) (hm : m.l ≤ L) (hr : r.l ≤ L) (hd : nd.l ≤ L) (hmr : m ≠ r) (hmd : m ≠ nd) (hrd : r ≠ nd) (eb : TypeId) (ob pb : Bool) (hFm : F m = some (.rows eb 1 ob pb [[.ptr r 0 0]]))
  (pos len : Nat → Nat) (N : Nat) (hFr : F r = some (rdB s (pos 0))) (a b c : Nat) (hFd : F nd = some (.rows 24 4 true true [pkV a b c .nilS])) (hat : ∀ i, i < N → CkAt s (pos i) (len i)) (hnx : ∀ i, i < N → pos (i + 1) = ckNx (pos i) (len i)) (hno : CkNo s (pos N))
  (y : YRec)
  (hy : ∀ (F3 : SF) (i q nx3 : Nat), i < N → (∃ o p, F3 nd = some (.rows 24 4 o p [pkV a b c (.sl ⟨L + 1, q⟩ 0 i)]) ∧ o = true) → F3 ⟨L + 1, q⟩ = some (.rows 34 3 true true ((List.range i).map fun j => (ckOf s (pos j) (len j)).row)) → q < nx3 →
   YCon Tryz.prog y [.agg (ckOf s (pos i) (len i)).row] F3 (L + 1) nx3 (nx3 + 1) (.bool true) [(nd, .rows 24 4 true false [pkV a b c (.sl ⟨L + 1, nx3⟩ 0 (i + 1))]), (⟨L + 1, q⟩, .dead), (⟨L + 1, nx3⟩, .rows 34 3 true true ((List.range (i + 1)).map fun j => (ckOf s (pos j) (len j)).row))] [nd, ⟨L + 1, q⟩]) :
  IDCon Tryz.prog [y] chM 114 [.fn (.yield y.l) [] [], .ptr m 0 0] F L [(r, .dead), (nd, .dead)] [m, r, nd] := by
 refine IDCon.body (cxqOk (L + 1) y) rfl (fn := Tryz.f114) (c := Tryz.f114.body.getD .skip) (by kernel_rfl) (by rfl) (by kernel_rfl) rfl (by simp; omega) ?_
 intro F3 hF1 hF2
 have kr : F3 r = some (rdB s (pos 0)) := (hF1 r (by simp)).trans hFr
 have km : F3 m = some (.rows eb 1 ob pb [[.ptr r 0 0]]) := (hF1 m (by simp)).trans hFm
 have kd : F3 nd = some (.rows 24 4 true true [pkV a b c .nilS]) := (hF1 nd (by simp)).trans hFd
 have r1 : ∀ k, (r = (⟨L + 1, k⟩ : Nm)) = False := nm_out hr
 have r2 : ∀ k, ((⟨L + 1, k⟩ : Nm) = r) = False := nm_out' hr
 have m1 : ∀ k, (m = (⟨L + 1, k⟩ : Nm)) = False := nm_out hm
 have m2 : ∀ k, ((⟨L + 1, k⟩ : Nm) = m) = False := nm_out' hm
 have d1 : ∀ k, (nd = (⟨L + 1, k⟩ : Nm)) = False := nm_out hd
 have d2 : ∀ k, ((⟨L + 1, k⟩ : Nm) = nd) = False := nm_out' hd
 have e1 : (m = r) = False := eq_false hmr
 have e2 : (m = nd) = False := eq_false hmd
 have e3 : (r = nd) = False := eq_false hrd
 have e4 : (nd = r) = False := eq_false (Ne.symm hrd)
 have e5 : (r = m) = False := eq_false (Ne.symm hmr)
 have hl9 : ∀ i, i ≤ N → pos i ≤ s.length := by
  intro i hi
  by_cases h : i < N
  ·have := (hat i h).h4; omega
  ·have : i = N := by omega
   rw [this]; have := hno.1; omega
 simp only [Tryz.f114, cxq, go_sem, meths]
 refine loopK.intro _ _ (I := fun z : Nat × Nat => ⟨[some (.fn (.yield y.l) [] []), some (.ptr m 0 0)] ++ oz 42, [(r, rdB s (pos z.1)), (nd, .rows 24 4 true false [pkV a b c (.sl ⟨L + 1, z.2⟩ 0 z.1)]), (⟨L + 1, z.2⟩, .rows 34 3 true true ((List.range z.1).map fun j => (ckOf s (pos j) (len j)).row))], 10000 * (z.1 + 1)⟩)
  (pre := fun z => z.1 ≤ N ∧ z.2 < 10000 * (z.1 + 1)) (μ := fun z => N - z.1) (0, 0) ⟨by simp, by simp⟩ ?_ ?_
 ·refine Sub.trans (Sub.nilCell (n := nd) (e := 24) (e2 := 34) (wd := 4) (wd2 := 3) (o := true) (p := true) (row := pkV a b c .nilS) (row1 := pkV a b c (.sl ⟨L + 1, 0⟩ 0 0)) (by omega) (by simpa [Tx.look, dying_L] using kd) (by simp [dying_L, d1]) rfl ?_) ?_
  ·intro k
   rcases k with _ | _ | _ | _ | k
   ·exact .inl rfl
   ·exact .inl rfl
   ·exact .inl rfl
   ·exact .inr ⟨rfl, rfl⟩
   ·exact .inl rfl
  ·refine Sub.of (hfz hF2) (by simp only [go_sem, subT, and_self]; try trivial) ?_ ?_ ?_
   ·simp [subH, Tx.look, updH, setH, dying_L, r1, d1, e3, kr]
   ·simp [subK, keys, updH, setH, dying_L, d1]
   ·simp
 ·rintro ⟨i, q⟩ ⟨hi, hq⟩
  simp only at hi hq ⊢
  have hpi := hl9 i hi
  obtain ⟨q_n1, q_n2, q_n3, q_n4, q_n5⟩ := nqL L (i := i) (p := q) (by omega)
  by_cases hlt : i < N
  ·obtain ⟨c1, c2, c3, c4, c5⟩ := hat i hlt
   have hnx1 := hnx i hlt
   unfold ckNx at hnx1
   obtain ⟨p, hp⟩ : ∃ p, p = pos i := ⟨_, rfl⟩
   obtain ⟨n, hn⟩ : ∃ n, n = len i := ⟨_, rfl⟩
   have hrow : (ckOf s (pos i) (len i)).row = [.int .i64 (getB ((s.drop p).take 1)), .int .i64 (getB ((s.drop (p + 1)).take 1)), .str ((s.drop (p + 4)).take (n - 4))] := by rw [hp, hn]; rfl
   simp only [← hp, ← hn] at c1 c2 c3 c4 c5 hnx1
   rw [← hp] at hpi
   have f1 : decide ((p : Int) < (s.length : Int)) = true := dT (by omega)
   rw [← hp]
   simp only [f1, km, rdB, r1, m1, e1, e2, e3, Nat.add_assoc, Nat.add_zero, go_sem]
   refine RegVD.live ?_
   refine ⟨by kernel_rfl, okDyn_num (fun x => if x = m then 1 else 2) (by simp only [numF, List.map, e5, if_true, if_false]; kernel_rfl), ?_⟩
   refine RegVD.live ?_
   refine ⟨by kernel_rfl, ?_⟩
   refine CallVC.same (number_ok r (by omega) s p 1 1 rfl (by omega) (by omega) (by omega) hl (by simp [rdB])) ?_
   simp only [km, rdB, r1, m1, e1, e2, e3, Nat.add_assoc, go_sem]
   refine CallVC.same (number_ok r (by omega) s (p + 1) 1 1 rfl (by omega) (by omega) (by omega) hl (by simp [rdB])) ?_
   simp only [km, rdB, r1, r2, m1, d2, e1, e2, e3, q_n1, Nat.add_assoc, go_sem]
   refine ⟨okDyn_num (fun x => if x = m then 1 else if x = r then 2 else 3) (by simp only [numF, List.map, e5, r2, m2, if_true, if_false]; kernel_rfl), ?_⟩
   refine CallVD.live (CallVC.same (number_ok r (by omega) s (p + 2) 2 2 rfl (by omega) (by omega) (by omega) hl (by simp [rdB])) ?_)
   have hn6 : n < 65536 := by
    rw [← c2]
    have := getB_lt ((s.drop (p + 2)).take 2)
    have h2 : ((s.drop (p + 2)).take 2).length = 2 := by rw [List.length_take, List.length_drop]; omega
    rw [h2] at this; exact this
   have f2 : decide ((n : Int) ≥ 4) = true := dT (by omega)
   have f2' : decide ((4 : Int) ≤ n) = true := dT (by omega)
   have f3 := negand n hn6
   obtain ⟨k, hk⟩ : ∃ k, k = (4 - n % 4) % 4 := ⟨_, rfl⟩
   rw [← hk] at c4 c5 hnx1 f3
   simp only [c2, f2, rdB, r1, e3, Nat.add_assoc, go_sem]
   refine CallVD.live (CallVC.same must_ok ?_)
   simp only [km, m1, e1, e2, Nat.add_assoc, go_sem]
   refine ⟨⟨by omega, by omega⟩, ?_⟩
   refine CallVD.live (CallVC.same (rtake_ok r (by omega) s (p + 4) (n - 4) ((n : Int) - 4) (by omega) (by omega) hl (by simp [rdB])) ?_)
   have g1 : p + 4 + (n - 4) = p + n := by omega
   have g2 : p + (4 + (n - 4)) = p + n := by omega
   simp only [f3, g1, km, rdB, r1, r2, m1, d2, e1, e2, e3, q_n1, Nat.add_assoc, go_sem]
   refine ⟨⟨by omega, by omega⟩, ?_⟩
   refine CallVD.live (CallVC.same (rtake_ok r (by omega) s (p + n) k (k : Int) rfl (by omega) hl (by simp [rdB])) ?_)
   simp only [rdB, r1, e3, Nat.add_assoc, go_sem]
   have hT := trimZ_nil ((s.drop (p + n)).take k)
   rw [c5] at hT
   refine CallVD.live (CallVC.same (sTrim_ok ((s.drop (p + n)).take k) (by rw [List.length_take]; omega)) ?_)
   simp only [hT, Nat.add_assoc, go_sem]
   refine CallVD.live (CallVC.same must_ok ?_)
   simp only [r2, d2, q_n1, Nat.add_assoc, go_sem]
   have hyy := fun F3 q nx3 => hy F3 i q nx3 hlt
   rw [hrow] at hyy
   refine YVC.one (hyy _ q _ ⟨true, false, by simp [e4], rfl⟩ (by simp [r2, d2]) (by omega)) ?_
   simp only [r2, d1, d2, e4, q_n1, q_n2, kS3, Nat.add_assoc, go_sem]
   have hnx2 : pos (i + 1) = p + (n + k) := by rw [hnx1]; omega
   refine ⟨(i + 1, 10000 * (i + 1) + 1056), ⟨by simp only []; omega, by simp only []; omega⟩, by simp only []; omega, ?_⟩
   refine Sub.of (hfz hF2) (by simp only [go_sem, subT, and_self]; try trivial) ?_ (by simp [subK, keys]) (by simp only []; omega)
   simp only [subH, Tx.look, hnx2, List.range_succ, r1, r2, d1, d2, e3, e4, q_n1, kS3, go_sem]
  ·have hin : i = N := by omega
   subst hin
   obtain ⟨hp0, hno⟩ := hno
   obtain ⟨p, hp⟩ : ∃ p, p = pos i := ⟨_, rfl⟩
   simp only [← hp] at hp0 hno hpi ⊢
   have h32 : r.l ≤ L + 1 := by omega
   have f1 : decide ((p : Int) < (s.length : Int)) = true := dT (by omega)
   simp only [f1, km, rdB, r1, m1, e1, e2, e3, Nat.add_assoc, Nat.add_zero, go_sem]
   refine RegVD.live ?_
   refine ⟨by kernel_rfl, okDyn_num (fun x => if x = m then 1 else 2) (by simp only [numF, List.map, e5, if_true, if_false]; kernel_rfl), ?_⟩
   by_cases hA : s.length < p + 2
   ·refine RegVD.dieAt 3 [4, 6] rfl (by simp) rfl (by kernel_rfl) ?_
    simp only [km, r2, m1, d2, e1, e2, q_n1, Nat.add_assoc, go_sem]
    refine CallVC.same (number_ok r (by omega) s p 1 1 rfl (by omega) (by omega) (by omega) hl (by simp [rdB])) ?_
    simp only [km, rdB, r1, r2, m1, d2, e1, e2, e3, q_n1, Nat.add_assoc, go_sem]
    refine dieX.same (number_die r h32 s (p + 1) 1 1 rfl (by omega) (by omega) (by omega) (by omega) hl (by simp [rdB, Tx.look])) ?_
    simp only [r2, d2, q_n1, Nat.add_assoc, go_sem]
    refine ⟨okDyn_num (fun x => if x = m then 1 else if x = r then 2 else 3) (by simp only [numF, List.map, e5, r2, m2, if_true, if_false]; kernel_rfl), ?_⟩
    exact fun nz => PostD.all (ns := [r, nd]) rfl (by simp; omega) (by simp [UpdAll, r2, d2]) (by simp [keys])
   ·refine RegVD.live ?_
    refine ⟨by kernel_rfl, ?_⟩
    refine CallVC.same (number_ok r (by omega) s p 1 1 rfl (by omega) (by omega) (by omega) hl (by simp [rdB])) ?_
    simp only [km, rdB, r1, m1, e1, e2, e3, Nat.add_assoc, go_sem]
    refine CallVC.same (number_ok r (by omega) s (p + 1) 1 1 rfl (by omega) (by omega) (by omega) hl (by simp [rdB])) ?_
    simp only [km, rdB, r1, r2, m1, d2, e1, e2, e3, q_n1, Nat.add_assoc, go_sem]
    refine ⟨okDyn_num (fun x => if x = m then 1 else if x = r then 2 else 3) (by simp only [numF, List.map, e5, r2, m2, if_true, if_false]; kernel_rfl), ?_⟩
    by_cases hB : s.length < p + 4
    ·refine CallVD.same rfl (number_die r h32 s (p + 2) 2 2 rfl (by omega) (by omega) (by omega) (by omega) hl (by simp [rdB, Tx.look])) ?_
     exact .dead (ns := [r, nd]) (by simp; omega) (by simp [UpdAll, updH, setH, r2, d2, e3, e4])
    ·refine CallVD.live (CallVC.same (number_ok r (by omega) s (p + 2) 2 2 rfl (by omega) (by omega) (by omega) hl (by simp [rdB])) ?_)
     rcases hno with h | ⟨n, c2, c1, hno⟩
     ·exact absurd h hB
     have hn6 : n < 65536 := by
      rw [← c2]
      have := getB_lt ((s.drop (p + 2)).take 2)
      have h2 : ((s.drop (p + 2)).take 2).length = 2 := by rw [List.length_take, List.length_drop]; omega
      rw [h2] at this; exact this
     by_cases hC : n < 4
     ·have f2 : decide ((n : Int) ≥ 4) = false := dF (by omega)
      have f2' : decide ((4 : Int) ≤ n) = false := dF (by omega)
      simp only [c2, f2, rdB, r1, e3, Nat.add_assoc, go_sem]
      refine CallVD.same rfl (must_die (L := L + 1)) ?_
      exact .dead (ns := [r, nd]) (by simp; omega) (by simp [UpdAll, updH, r2, d2, e3, e4])
     ·have f2 : decide ((n : Int) ≥ 4) = true := dT (by omega)
      have f2' : decide ((4 : Int) ≤ n) = true := dT (by omega)
      have f3 := negand n hn6
      obtain ⟨k, hk⟩ : ∃ k, k = (4 - n % 4) % 4 := ⟨_, rfl⟩
      rw [← hk] at hno f3
      have g1 : p + 4 + (n - 4) = p + n := by omega
      have g2 : p + (4 + (n - 4)) = p + n := by omega
      simp only [c2, f2, rdB, r1, e3, Nat.add_assoc, go_sem]
      refine CallVD.live (CallVC.same must_ok ?_)
      simp only [km, m1, e1, e2, Nat.add_assoc, go_sem]
      refine ⟨⟨by omega, by omega⟩, ?_⟩
      by_cases hD : s.length < p + n
      ·refine CallVD.same rfl (rtake_die r h32 s (p + 4) (n - 4) ((n : Int) - 4) (by omega) (by omega) (by omega) hl (by simp [rdB, Tx.look])) ?_
       exact .dead (ns := [r, nd]) (by simp; omega) (by simp [UpdAll, updH, setH, r2, d2, e3, e4])
      ·refine CallVD.live (CallVC.same (rtake_ok r (by omega) s (p + 4) (n - 4) ((n : Int) - 4) (by omega) (by omega) hl (by simp [rdB])) ?_)
       simp only [f3, g1, km, rdB, r1, r2, m1, d2, e1, e2, e3, q_n1, Nat.add_assoc, go_sem]
       refine ⟨⟨by omega, by omega⟩, ?_⟩
       by_cases hE : s.length < p + n + k
       ·refine CallVD.same rfl (rtake_die r h32 s (p + n) k (k : Int) rfl (by omega) (by omega) hl (by simp [rdB, Tx.look])) ?_
        exact .dead (ns := [r, nd]) (by simp; omega) (by simp [UpdAll, updH, setH, r2, d2, e3, e4])
       ·refine CallVD.live (CallVC.same (rtake_ok r (by omega) s (p + n) k (k : Int) rfl (by omega) hl (by simp [rdB])) ?_)
        have c5 : ((s.drop (p + n)).take k).all (· == 0) = false := by
         rcases hno with h | ⟨_, h | ⟨_, h⟩⟩
         ·omega
         ·omega
         ·exact h
        simp only [rdB, r1, e3, Nat.add_assoc, go_sem]
        have hT := trimZ_nil ((s.drop (p + n)).take k)
        rw [c5] at hT
        refine CallVD.live (CallVC.same (sTrim_ok ((s.drop (p + n)).take k) (by rw [List.length_take]; omega)) ?_)
        simp only [hT, Nat.add_assoc, go_sem]
        refine CallVD.same rfl (must_die (L := L + 1)) ?_
        exact .dead (ns := [r, nd]) (by simp; omega) (by simp [UpdAll, updH, r2, d2, e3, e4])
end Go.Proofs.YtaacfnngodhecaaGreatDoor
end
