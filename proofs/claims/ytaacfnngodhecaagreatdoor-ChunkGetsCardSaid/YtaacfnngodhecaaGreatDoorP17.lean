/- Lemmas for the walk: WK40, WK7, WK8, WK24, WK25, WK26, WK41. -/
import Derived.Test.YtaacfnngodhecaaGreatDoorP15
import Derived.Test.YtaacfnngodhecaaGreatDoorP16
import Derived.Test.YtaacfnngodhecaaGreatDoorP11
set_option linter.all false
section
namespace Go.Proofs.YtaacfnngodhecaaGreatDoor
open Go.Tx
set_option maxRecDepth 100000
set_option maxHeartbeats 2000000
theorem rPairs_ok {F : SF} {L nx : Nat} (xs ys : List (Int × Int)) (hx : xs.length ≤ 1000000) (hy : ys.length ≤ 1000000) :
  Con Tryz.prog 98 [.fs 2 (xs.map kE), .fs 2 (ys.map kE)] F L nx nx (.bool (xs == ys)) [] [] := by
 refine bdy Tryz.f98 ?_
 intro F3 hF1 hF2
 simp only [Tryz.f98, cx, go_sem, meths]
 simp only [List.length_map]
 refine brB.mk (fun hne => ?_) (fun heq => ?_)
 ·refine .bool (.inr rfl) rfl ?_ trivial
  symm
  simp only [beq_eq_false_iff_ne]
  rintro rfl
  simp at hne
 ·have hl : xs.length = ys.length := by have := heq; simp at this; omega
  refine loopK.intro _ _ (I := fun i : Nat => ⟨[some (.fs 2 (xs.map kE)), some (.fs 2 (ys.map kE)), none, none, none, some (.int .i64 i), none, none, none, none, none, none, none, none, none, none, none, none, none, none, none, none, none, none, none, none], [], 10000 * (i + 1)⟩) (pre := fun i => i ≤ xs.length ∧ ∀ j, j < i → xs.getD j (0, 0) = ys.getD j (0, 0)) (μ := fun i => xs.length - i) 0 ⟨by omega, by intro j h; omega⟩ ?_ ?_
  ·exact Sub.of (hfz hF2) (by simp only [go_sem, subT, and_self, Int.natCast_zero]) trivial trivial (by simp)
  ·rintro i ⟨hi, hp⟩
   by_cases hlt : i < xs.length
   ·have f1 : decide ((i : Int) < (xs.length : Int)) = true := dT (by omega)
    have r0 := rowK hlt
    have r1 := rowK (sk := ys) (i := i) (by omega)
    have i1 : Go.Sx.inI64 ((i : Int) + 1) := ⟨by omega, by omega⟩
    obtain ⟨x, hx0⟩ : ∃ x, x = xs.getD i (0, 0) := ⟨_, rfl⟩
    obtain ⟨y, hy0⟩ : ∃ y, y = ys.getD i (0, 0) := ⟨_, rfl⟩
    rw [← hx0] at r0
    rw [← hy0] at r1
    by_cases hxy : x = y
    ·have b1 : (!(x.1 == y.1 && x.2 == y.2)) = false := by rw [hxy]; simp
     simp only [f1, r0, r1, kE, b1, List.length_map, Nat.add_assoc, go_sem]
     refine ⟨by kernel_rfl, ⟨by omega, by omega⟩, hlt, ⟨by omega, by omega⟩, by omega, okDyn_num (fun x => x.i % 10000) (by simp only [numF, List.map]; kernel_rfl), i1, i + 1, ⟨by omega, fun j hj => ?_⟩, by omega, ?_⟩
     ·rcases Nat.lt_or_ge j i with h | h
      ·exact hp j h
      ·have : j = i := by omega
       subst this
       rw [← hx0, ← hy0, hxy]
     ·exact Sub.of (hfz hF2) (by simp only [go_sem, subT, and_self, Int.natCast_succ]) trivial trivial (by simp; omega)
    ·have b1 : (!(x.1 == y.1 && x.2 == y.2)) = true := by
      cases hb : (x.1 == y.1 && x.2 == y.2) with
      | false => rfl
      | true =>
       simp only [Bool.and_eq_true, beq_iff_eq] at hb
       exact absurd (Prod.ext hb.1 hb.2) hxy
     simp only [f1, r0, r1, kE, b1, List.length_map, Nat.add_assoc, go_sem]
     refine ⟨by kernel_rfl, ⟨by omega, by omega⟩, hlt, ⟨by omega, by omega⟩, by omega, okDyn_num (fun x => x.i % 10000) (by simp only [numF, List.map]; kernel_rfl), ?_⟩
     refine .bool (.inr rfl) rfl ?_ trivial
     symm
     simp only [beq_eq_false_iff_ne]
     rintro rfl
     exact hxy (hx0.trans hy0.symm)
   ·have f1 : decide ((i : Int) < (xs.length : Int)) = false := dF (by omega)
    simp only [f1, List.length_map, go_sem]
    refine .bool (.inr rfl) rfl ?_ trivial
    symm
    simp only [beq_iff_eq]
    apply List.ext_getElem hl
    intro k h1 h2
    have := hp k (by omega)
    simpa [List.getD_eq_getElem?_getD, h1, h2] using this
theorem sameFwd_ok {F : SF} {L nx : Nat} (c c' : Int) (xs ys : List (Int × Int)) (hx : xs.length ≤ 1000000) (hy : ys.length ≤ 1000000) :
  Con Tryz.prog 49 [fwdP c xs, fwdP c' ys] F L nx nx (.bool (c == c' && xs == ys)) [] [] := by
 refine bdy Tryz.f49 ?_
 intro F3 hF1 hF2
 cases h : (c == c') with
 | true =>
  simp only [Tryz.f49, cx, fwdP, h, Nat.add_zero, go_sem, meths]
  refine CallVC.same (rPairs_ok xs ys hx hy) ?_
  simp only [go_sem]
  exact .bool (.inr rfl) rfl rfl (by simp [UpdAll])
 | false =>
  simp only [Tryz.f49, cx, fwdP, h, Nat.add_zero, go_sem, meths]
  exact .bool (.inr rfl) rfl rfl (by simp [UpdAll])
theorem sameSck_ok {F : SF} {L nx : Nat} (a b a' b' : Int) (gs gs' : List (Int × Int)) (ds ds' : List Int) (h1 : gs.length ≤ 1000000) (h2 : gs'.length ≤ 1000000) (h3 : ds.length ≤ 1000000) (h4 : ds'.length ≤ 1000000) :
  Con Tryz.prog 48 [sackP a b gs ds, sackP a' b' gs' ds'] F L nx nx (.bool (a == a' && (b == b' && (gs == gs' && ds == ds')))) [] [] := by
 refine bdy Tryz.f48 ?_
 intro F3 hF1 hF2
 cases ha : (a == a') with
 | false =>
  simp only [Tryz.f48, cx, sackP, ha, Nat.add_zero, go_sem, meths]
  exact .bool (.inr rfl) rfl rfl (by simp [UpdAll])
 | true =>
  cases hb : (b == b') with
  | false =>
   simp only [Tryz.f48, cx, sackP, ha, hb, Nat.add_zero, go_sem, meths]
   exact .bool (.inr rfl) rfl rfl (by simp [UpdAll])
  | true =>
   simp only [Tryz.f48, cx, sackP, ha, hb, Nat.add_zero, go_sem, meths]
   refine CallVC.same (rPairs_ok gs gs' h1 h2) ?_
   cases hg : (gs == gs') with
   | false =>
    simp only [go_sem]
    exact .bool (.inr rfl) rfl rfl (by simp [UpdAll])
   | true =>
    simp only [go_sem]
    refine CallVC.same (ints_ok ds ds' h3 h4) ?_
    simp only [go_sem]
    exact .bool (.inr rfl) rfl rfl (by simp [UpdAll])
theorem sameRst_ok {F : SF} {L nx : Nat} (a b c d a' b' c' d' : Int) (xs ys : List Int) (h1 : xs.length ≤ 1000000) (h2 : ys.length ≤ 1000000) :
  Con Tryz.prog 50 [rstP a b c d (.fs 1 (xs.map eI)), rstP a' b' c' d' (.fs 1 (ys.map eI))] F L nx nx (.bool (a == a' && (b == b' && (c == c' && (d == d' && xs == ys))))) [] [] := by
 refine bdy Tryz.f50 ?_
 intro F3 hF1 hF2
 cases ha : (a == a') with
 | false =>
  simp only [Tryz.f50, cx, rstP, ha, Nat.add_zero, go_sem, meths]
  exact .bool (.inr rfl) rfl rfl (by simp [UpdAll])
 | true =>
  cases hb : (b == b') with
  | false =>
   simp only [Tryz.f50, cx, rstP, ha, hb, Nat.add_zero, go_sem, meths]
   exact .bool (.inr rfl) rfl rfl (by simp [UpdAll])
  | true =>
   cases hc : (c == c') with
   | false =>
    simp only [Tryz.f50, cx, rstP, ha, hb, hc, Nat.add_zero, go_sem, meths]
    exact .bool (.inr rfl) rfl rfl (by simp [UpdAll])
   | true =>
    cases hd : (d == d') with
    | false =>
     simp only [Tryz.f50, cx, rstP, ha, hb, hc, hd, Nat.add_zero, go_sem, meths]
     exact .bool (.inr rfl) rfl rfl (by simp [UpdAll])
    | true =>
     simp only [Tryz.f50, cx, rstP, ha, hb, hc, hd, Nat.add_zero, go_sem, meths]
     refine CallVC.same (ints_ok xs ys h1 h2) ?_
     simp only [go_sem]
     exact .bool (.inr rfl) rfl rfl (by simp [UpdAll])
def someX (s : List UInt8) (n : Nat) : List UInt8 := if s = [] then [120] else s.take n
theorem someX_ne (s : List UInt8) {n : Nat} (h : 1 ≤ n) : someX s n ≠ [] := by
 unfold someX
 split
 ·simp
 ·rename_i hs
  cases s with
  | nil => exact absurd rfl hs
  | cons a l => intro hc; cases n with
   | zero => omega
   | succ n => simp at hc
theorem someX_len (s : List UInt8) (n : Nat) (h : 1 ≤ n) : (someX s n).length ≤ n ∧ 1 ≤ (someX s n).length := by
 have h1 := someX_ne s h
 refine ⟨?_, List.length_pos_iff.2 h1⟩
 unfold someX
 split
 ·simpa using h
 ·rw [List.length_take]; omega
theorem rSome_ok {F : SF} {L nx : Nat} (s : List UInt8) (n : Nat) (a : Int) (ha : a = n) (hs : s.length ≤ maxLen) : Con Tryz.prog 77 [.str s, .int .i64 a] F L nx nx (.str (someX s n)) [] [] := by
 subst ha
 refine bdy Tryz.f77 ?_
 intro F3 hF1 hF2
 by_cases h : s = []
 ·have f1 : (s == ([] : List UInt8)) = true := by rw [h]; rfl
  simp only [Tryz.f77, cx, f1, go_sem, meths]
  rw [someX, if_pos h]
  exact PostF.rs (v0 := .str [120]) (.inr rfl)
 ·have f1 : (s == ([] : List UInt8)) = false := by simpa using h
  simp only [Tryz.f77, cx, f1, go_sem, meths]
  repeat refine sd2 ?_
  have e1 : List.take ((min (s.length : Int) n).toNat - 0) s = someX s n := by
   rw [someX, if_neg h, List.take_eq_take_iff]; omega
  rw [e1]
  exact PostF.rs (v0 := .str (someX s n)) (.inr rfl)
theorem rest_ok {F : SF} {L nx : Nat} (r : Nm) (hr : r.l ≤ L) (s : List UInt8) (p : Nat) (hp : p ≤ s.length) (hl : s.length ≤ 1000000) (hF : F r = some (rdB s p)) :
  Con Tryz.prog 86 [.ptr r 0 0] F L nx nx (.str (s.drop p)) [(r, rdB s s.length)] [r] := by
 refine bdy Tryz.f86 (hrd := (by simp; omega)) ?_
 intro F3 hF1 hF2
 have kr : F3 r = some (rdB s p) := (hF1 r (by simp)).trans hF
 have n1 : ∀ k, (r = (⟨L + 1, k⟩ : Nm)) = False := nm_out hr
 have n2 : ∀ k, ((⟨L + 1, k⟩ : Nm) = r) = False := nm_out' hr
 have e1 : p + (s.length - p) = s.length := by omega
 have e2 : (s.drop p).take (s.length - p) = s.drop p := List.take_of_length_le (by simp)
 simp only [Tryz.f86, cx, rdB, kr, Nat.add_zero, go_sem, meths]
 repeat refine sd1 ?_
 refine CallVC.same (rtake_ok r (by omega) s p (s.length - p) _ (by omega) (by omega) hl (by simp [rdB, kr])) ?_
 rw [e1, e2]
 simp only [rdB, go_sem]
 refine ⟨okDyn_num (fun x => if x = r then 1 else x.i % 10000 + 100) (by simp only [numF, List.map, if_true]; kernel_rfl), ?_⟩
 exact PostF.of (p := True) (v0 := .str (s.drop p)) (.inr rfl) (by simp only [resVal, resVals, resVal1, one, go_sem]) trivial (by simp [Wk]) (by simp [wkN]) (by simp [Tx.nf]) ⟨hr, by simp [BW, Tx.look], trivial⟩ (by simp [UpdAll, keys])
def datK (fl : Int) (s : List UInt8) : List PV :=
  [.int .i64 (getB (s.take 4)), .int .i64 (getB ((s.drop 4).take 2)), .int .i64 (getB ((s.drop 6).take 2)), .int .i64 (getB ((s.drop 8).take 4)),
   .bool (decide (Sx.ibits .and .i64 fl 2 > 0)), .bool (decide (Sx.ibits .and .i64 fl 1 > 0)), .bool (decide (Sx.ibits .and .i64 fl 4 > 0)), .str (s.drop 12)]
theorem data1_ok {F : SF} (nc : Nm) (k fl : Int) (s s2 : List UInt8) (oc : Bool) (hc : F nc = some (.rows 34 3 oc true [[.int .i64 k, .int .i64 fl, .str s2]])) (hs : 12 ≤ s.length) (hl : s.length ≤ 1000000) :
  OfOk 85 [] [.ptr nc 0 0] s (.agg (datK fl s)) s.length F [nc] := by
 intro F' L r nx hF' hr hrd hFr
 have hcl : nc.l ≤ L := hrd nc (by simp)
 have hne : nc ≠ r := by
  rintro rfl
  rw [hF' nc (by simp), hc] at hFr
  simp [rdB] at hFr
 simp only [List.nil_append, List.cons_append]
 refine bdy Tryz.f85 (hrd := (by simp; omega)) ?_
 intro F3 hF1 hF2
 have kr : F3 r = some (rdB s 0) := (hF1 r (by simp)).trans hFr
 have kc : F3 nc = some (.rows 34 3 oc true [[.int .i64 k, .int .i64 fl, .str s2]]) := (hF1 nc (by simp)).trans ((hF' nc (by simp)).trans hc)
 have n1 : ∀ k, (r = (⟨L + 1, k⟩ : Nm)) = False := nm_out hr
 have n2 : ∀ k, ((⟨L + 1, k⟩ : Nm) = r) = False := nm_out' hr
 have c1 : ∀ k, (nc = (⟨L + 1, k⟩ : Nm)) = False := nm_out hcl
 have c2 : ∀ k, ((⟨L + 1, k⟩ : Nm) = nc) = False := nm_out' hcl
 have e1 : (nc = r) = False := eq_false hne
 simp only [Tryz.f85, cx, rdB, go_sem, meths]
 refine CallVC.same (number_ok r (by omega) s 0 4 4 rfl (by omega) (by omega) (by omega) hl (by simp [rdB, kr, n1])) ?_
 simp only [rdB, n1, go_sem]
 refine CallVC.same (number_ok r (by omega) s 4 2 2 rfl (by omega) (by omega) (by omega) hl (by simp [rdB, n1])) ?_
 simp only [rdB, n1, go_sem]
 refine CallVC.same (number_ok r (by omega) s 6 2 2 rfl (by omega) (by omega) (by omega) hl (by simp [rdB, n1])) ?_
 simp only [rdB, n1, go_sem]
 refine CallVC.same (number_ok r (by omega) s 8 4 4 rfl (by omega) (by omega) (by omega) hl (by simp [rdB, n1])) ?_
 simp only [kc, c1, e1, rdB, n1, n2, go_sem]
 refine ⟨by kernel_rfl, okDyn_num (fun x => if x = nc then 1 else x.i % 10000 + 100) (by simp only [numF, List.map, c2, if_true, if_false]; kernel_rfl), ?_⟩
 refine CallVC.same (rest_ok r (by omega) s 12 (by omega) hl (by simp [rdB, n1])) ?_
 simp only [rdB, n1, n2, go_sem]
 repeat refine sd1 ?_
 exact PostF.of (p := True) (v0 := .agg (datK fl s)) (.inr rfl) (by simp only [datK, resVal, resVals, resVal1, one, List.drop_zero, go_sem]) trivial (wk_refl _ _).1 (by rw [(wk_refl (fun _ => none) _).2]; simp) (by rfl) ⟨hr, by simp [BW, Tx.look, n1], trivial⟩ (by simp [UpdAll, keys])
theorem data1_die {F : SF} (nc : Nm) (s : List UInt8) (hs : s.length < 12) : OfDie 85 [] [.ptr nc 0 0] s F [nc] := by
 intro F' L r hF' hr hrd hFr
 have hcl : nc.l ≤ L := hrd nc (by simp)
 simp only [List.nil_append, List.cons_append]
 refine DCon.body (cxOk (L + 1)) rfl rfl (fn := Tryz.f85) (c := Tryz.f85.body.getD .skip) (by kernel_rfl) (by rfl) (by kernel_rfl) rfl  (by simp; omega) ?_
 intro F3 hF1 hF2
 have kr : F3 r = some (rdB s 0) := (hF1 r (by simp)).trans hFr
 have n1 : ∀ k, (r = (⟨L + 1, k⟩ : Nm)) = False := nm_out hr
 have n2 : ∀ k, ((⟨L + 1, k⟩ : Nm) = r) = False := nm_out' hr
 have h32 : r.l ≤ L + 1 := by omega
 simp only [Tryz.f85, cx, go_sem, meths]
 by_cases h4 : s.length < 4
 ·refine CallVD.same rfl (number_die r h32 s 0 4 4 rfl (by omega) (by omega) (by omega) (by omega) (by omega) (by simp [rdB, kr, n1, Tx.look])) ?_
  exact .dead (ns := [r]) (by simpa using hr) (by simp [UpdAll, updH, setH, n1, n2])
 refine CallVD.live (CallVC.same (number_ok r h32 s 0 4 4 rfl (by omega) (by omega) (by omega) (by omega) (by simp [rdB, kr, n1])) ?_)
 simp only [rdB, n1, go_sem]
 by_cases h6 : s.length < 6
 ·refine CallVD.same rfl (number_die r h32 s 4 2 2 rfl (by omega) (by omega) (by omega) (by omega) (by omega) (by simp [rdB, n1, Tx.look])) ?_
  exact .dead (ns := [r]) (by simpa using hr) (by simp [UpdAll, updH, setH, n1, n2])
 refine CallVD.live (CallVC.same (number_ok r h32 s 4 2 2 rfl (by omega) (by omega) (by omega) (by omega) (by simp [rdB, n1])) ?_)
 simp only [rdB, n1, go_sem]
 by_cases h8 : s.length < 8
 ·refine CallVD.same rfl (number_die r h32 s 6 2 2 rfl (by omega) (by omega) (by omega) (by omega) (by omega) (by simp [rdB, n1, Tx.look])) ?_
  exact .dead (ns := [r]) (by simpa using hr) (by simp [UpdAll, updH, setH, n1, n2])
 refine CallVD.live (CallVC.same (number_ok r h32 s 6 2 2 rfl (by omega) (by omega) (by omega) (by omega) (by simp [rdB, n1])) ?_)
 simp only [rdB, n1, go_sem]
 refine CallVD.same rfl (number_die r h32 s 8 4 4 rfl (by omega) (by omega) (by omega) (by omega) (by omega) (by simp [rdB, n1, Tx.look])) ?_
 exact .dead (ns := [r]) (by simpa using hr) (by simp [UpdAll, updH, setH, n1, n2])
def initK (s : List UInt8) : List PV :=
 [.int .i64 (getB (s.take 4)), .int .i64 (getB ((s.drop 4).take 4)), .int .i64 (getB ((s.drop 8).take 2)), .int .i64 (getB ((s.drop 10).take 2)), .int .i64 (getB ((s.drop 12).take 4)), .str (s.drop 16)]
theorem init1_ok {F : SF} (s : List UInt8) (hs : 16 ≤ s.length) (hl : s.length ≤ 1000000) : OfOk 88 [] [] s (.agg (initK s)) s.length F [] := by
 intro F' L r nx hF' hr hrd hFr
 simp only [List.nil_append, List.cons_append]
 refine bdy Tryz.f88 (hrd := (by simp; omega)) ?_
 intro F3 hF1 hF2
 have kr : F3 r = some (rdB s 0) := (hF1 r (by simp)).trans hFr
 have n1 : ∀ k, (r = (⟨L + 1, k⟩ : Nm)) = False := nm_out hr
 have n2 : ∀ k, ((⟨L + 1, k⟩ : Nm) = r) = False := nm_out' hr
 have h32 : r.l ≤ L + 1 := by omega
 simp only [Tryz.f88, cx, rdB, go_sem, meths]
 refine CallVC.same (number_ok r h32 s 0 4 4 rfl (by omega) (by omega) (by omega) (by omega) (by simp [rdB, kr, n1])) ?_
 simp only [rdB, n1, go_sem]
 refine CallVC.same (number_ok r h32 s 4 4 4 rfl (by omega) (by omega) (by omega) (by omega) (by simp [rdB, n1])) ?_
 simp only [rdB, n1, go_sem]
 refine CallVC.same (number_ok r h32 s 8 2 2 rfl (by omega) (by omega) (by omega) (by omega) (by simp [rdB, n1])) ?_
 simp only [rdB, n1, go_sem]
 refine CallVC.same (number_ok r h32 s 10 2 2 rfl (by omega) (by omega) (by omega) (by omega) (by simp [rdB, n1])) ?_
 simp only [rdB, n1, go_sem]
 refine CallVC.same (number_ok r h32 s 12 4 4 rfl (by omega) (by omega) (by omega) (by omega) (by simp [rdB, n1])) ?_
 simp only [rdB, n1, go_sem]
 refine CallVC.same (rest_ok r h32 s 16 (by omega) hl (by simp [rdB, n1])) ?_
 simp only [rdB, n1, n2, go_sem]
 repeat refine sd1 ?_
 exact PostF.of (p := True) (v0 := .agg (initK s)) (.inr rfl) (by simp only [initK, resVal, resVals, resVal1, one, List.drop_zero, go_sem]) trivial (wk_refl _ _).1 (by rw [(wk_refl (fun _ => none) _).2]; simp) (by rfl) ⟨hr, by simp [BW, Tx.look, n1], trivial⟩ (by simp [UpdAll, keys])
theorem init1_die {F : SF} (s : List UInt8) (hs : s.length < 16) : OfDie 88 [] [] s F [] := by
 intro F' L r hF' hr hrd hFr
 simp only [List.nil_append, List.cons_append]
 refine DCon.body (cxOk (L + 1)) rfl rfl (fn := Tryz.f88) (c := Tryz.f88.body.getD .skip) (by kernel_rfl) (by rfl) (by kernel_rfl) rfl  (by simp; omega) ?_
 intro F3 hF1 hF2
 have kr : F3 r = some (rdB s 0) := (hF1 r (by simp)).trans hFr
 have n1 : ∀ k, (r = (⟨L + 1, k⟩ : Nm)) = False := nm_out hr
 have n2 : ∀ k, ((⟨L + 1, k⟩ : Nm) = r) = False := nm_out' hr
 have h32 : r.l ≤ L + 1 := by omega
 simp only [Tryz.f88, cx, go_sem, meths]
 by_cases g0 : s.length < 4
 ·refine CallVD.same rfl (number_die r h32 s 0 4 4 rfl (by omega) (by omega) (by omega) (by omega) (by omega) (by simp [rdB, kr, n1, Tx.look])) ?_
  exact .dead (ns := [r]) (by simpa using hr) (by simp [UpdAll, updH, setH, n1, n2])
 refine CallVD.live (CallVC.same (number_ok r h32 s 0 4 4 rfl (by omega) (by omega) (by omega) (by omega) (by simp [rdB, kr, n1])) ?_)
 simp only [rdB, n1, go_sem]
 by_cases g4 : s.length < 8
 ·refine CallVD.same rfl (number_die r h32 s 4 4 4 rfl (by omega) (by omega) (by omega) (by omega) (by omega) (by simp [rdB, n1, Tx.look])) ?_
  exact .dead (ns := [r]) (by simpa using hr) (by simp [UpdAll, updH, setH, n1, n2])
 refine CallVD.live (CallVC.same (number_ok r h32 s 4 4 4 rfl (by omega) (by omega) (by omega) (by omega) (by simp [rdB, n1])) ?_)
 simp only [rdB, n1, go_sem]
 by_cases g8 : s.length < 10
 ·refine CallVD.same rfl (number_die r h32 s 8 2 2 rfl (by omega) (by omega) (by omega) (by omega) (by omega) (by simp [rdB, n1, Tx.look])) ?_
  exact .dead (ns := [r]) (by simpa using hr) (by simp [UpdAll, updH, setH, n1, n2])
 refine CallVD.live (CallVC.same (number_ok r h32 s 8 2 2 rfl (by omega) (by omega) (by omega) (by omega) (by simp [rdB, n1])) ?_)
 simp only [rdB, n1, go_sem]
 by_cases g10 : s.length < 12
 ·refine CallVD.same rfl (number_die r h32 s 10 2 2 rfl (by omega) (by omega) (by omega) (by omega) (by omega) (by simp [rdB, n1, Tx.look])) ?_
  exact .dead (ns := [r]) (by simpa using hr) (by simp [UpdAll, updH, setH, n1, n2])
 refine CallVD.live (CallVC.same (number_ok r h32 s 10 2 2 rfl (by omega) (by omega) (by omega) (by omega) (by simp [rdB, n1])) ?_)
 simp only [rdB, n1, go_sem]
 by_cases g12 : s.length < 16
 ·refine CallVD.same rfl (number_die r h32 s 12 4 4 rfl (by omega) (by omega) (by omega) (by omega) (by omega) (by simp [rdB, n1, Tx.look])) ?_
  exact .dead (ns := [r]) (by simpa using hr) (by simp [UpdAll, updH, setH, n1, n2])
 omega
def sackG (s : List UInt8) : Nat := getB ((s.drop 8).take 2)
def sackD (s : List UInt8) : Nat := getB ((s.drop 10).take 2)
def sackK (s : List UInt8) : List PV :=
 [.int .i64 (getB (s.take 4)), .int .i64 (getB ((s.drop 4).take 4)), .fs 2 ((pairsG s 12 (sackG s)).map eP), .fs 1 ((numsG s (12 + 4 * sackG s) 4 (sackD s)).map eN)]
theorem getB2 (s : List UInt8) (p : Nat) : getB ((s.drop p).take 2) < 65536 := by
 have := getB_lt ((s.drop p).take 2)
 have h2 : ((s.drop p).take 2).length ≤ 2 := by simp; omega
 have h3 := Nat.pow_le_pow_right (n := 256) (by omega) h2
 omega
theorem sack1_ok {F : SF} (s : List UInt8) (hs : 12 + 4 * sackG s + 4 * sackD s ≤ s.length) (hl : s.length ≤ 1000000) : OfOk 90 [] [] s (.agg (sackK s)) (12 + 4 * sackG s + 4 * sackD s) F [] := by
 intro F' L r nx hF' hr hrd hFr
 simp only [List.nil_append, List.cons_append]
 refine bdy Tryz.f90 (hrd := (by simp; omega)) ?_
 intro F3 hF1 hF2
 have kr : F3 r = some (rdB s 0) := (hF1 r (by simp)).trans hFr
 have n1 : ∀ k, (r = (⟨L + 1, k⟩ : Nm)) = False := nm_out hr
 have n2 : ∀ k, ((⟨L + 1, k⟩ : Nm) = r) = False := nm_out' hr
 have h32 : r.l ≤ L + 1 := by omega
 simp only [Tryz.f90, cx, rdB, go_sem, meths]
 refine CallVC.same (number_ok r h32 s 0 4 4 rfl (by omega) (by omega) (by omega) (by omega) (by simp [rdB, kr, n1])) ?_
 simp only [rdB, n1, go_sem]
 refine CallVC.same (number_ok r h32 s 4 4 4 rfl (by omega) (by omega) (by omega) (by omega) (by simp [rdB, n1])) ?_
 simp only [rdB, n1, n2, go_sem]
 refine CallVC.same (number_ok r h32 s 8 2 2 rfl (by omega) (by omega) (by omega) (by omega) (by simp [rdB, n1])) ?_
 simp only [rdB, n1, go_sem]
 refine CallVC.same (number_ok r h32 s 10 2 2 rfl (by omega) (by omega) (by omega) (by omega) (by simp [rdB, n1])) ?_
 simp only [rdB, n1, go_sem]
 have e8 : getB ((s.drop 8).take 2) = sackG s := rfl
 have e10 : getB ((s.drop 10).take 2) = sackD s := rfl
 rw [e8, e10]
 refine CallVC.same (pairs_ok r h32 s 12 (sackG s) _ rfl (by omega) hl (by simp [rdB, n1])) ?_
 simp only [rdB, n1, n2, go_sem]
 repeat refine sd1 ?_
 refine CallVC.same (numbers_ok r h32 s (12 + 4 * sackG s) 4 (sackD s) (by omega) (by omega) (by omega) hl (by simp [rdB, n1])) ?_
 simp only [rdB, n1, n2, go_sem]
 repeat refine sd1 ?_
 exact PostF.of (p := True) (v0 := .agg (sackK s)) (.inr rfl) (by simp only [sackK, resVal, resVals, resVal1, one, List.drop_zero, go_sem]) trivial (wk_refl _ _).1 (by rw [(wk_refl (fun _ => none) _).2]; simp) (by rfl) ⟨hr, by simp [BW, Tx.look, n1], trivial⟩ (by simp [UpdAll, keys])
theorem sack1_die {F : SF} (s : List UInt8) (hs : s.length < 12 + 4 * sackG s + 4 * sackD s ∨ s.length < 12) (hl : s.length ≤ 1000000) : OfDie 90 [] [] s F [] := by
 intro F' L r hF' hr hrd hFr
 simp only [List.nil_append, List.cons_append]
 refine DCon.body (cxOk (L + 1)) rfl rfl (fn := Tryz.f90) (c := Tryz.f90.body.getD .skip) (by kernel_rfl) (by rfl) (by kernel_rfl) rfl  (by simp; omega) ?_
 intro F3 hF1 hF2
 have kr : F3 r = some (rdB s 0) := (hF1 r (by simp)).trans hFr
 have n1 : ∀ k, (r = (⟨L + 1, k⟩ : Nm)) = False := nm_out hr
 have n2 : ∀ k, ((⟨L + 1, k⟩ : Nm) = r) = False := nm_out' hr
 have h32 : r.l ≤ L + 1 := by omega
 simp only [Tryz.f90, cx, go_sem, meths]
 by_cases g0 : s.length < 4
 ·refine CallVD.same rfl (number_die r h32 s 0 4 4 rfl (by omega) (by omega) (by omega) (by omega) (by omega) (by simp [rdB, kr, n1, Tx.look])) ?_
  exact .dead (ns := [r]) (by simpa using hr) (by simp [UpdAll, updH, setH, n1, n2])
 refine CallVD.live (CallVC.same (number_ok r h32 s 0 4 4 rfl (by omega) (by omega) (by omega) (by omega) (by simp [rdB, kr, n1])) ?_)
 simp only [rdB, n1, go_sem]
 by_cases g4 : s.length < 8
 ·refine CallVD.same rfl (number_die r h32 s 4 4 4 rfl (by omega) (by omega) (by omega) (by omega) (by omega) (by simp [rdB, n1, Tx.look])) ?_
  exact .dead (ns := [r]) (by simpa using hr) (by simp [UpdAll, updH, setH, n1, n2])
 refine CallVD.live (CallVC.same (number_ok r h32 s 4 4 4 rfl (by omega) (by omega) (by omega) (by omega) (by simp [rdB, n1])) ?_)
 simp only [rdB, n1, n2, go_sem]
 by_cases g8 : s.length < 10
 ·refine CallVD.same rfl (number_die r h32 s 8 2 2 rfl (by omega) (by omega) (by omega) (by omega) (by omega) (by simp [rdB, n1, Tx.look])) ?_
  exact .dead (ns := [r]) (by simpa using hr) (by simp [UpdAll, updH, setH, n1, n2])
 refine CallVD.live (CallVC.same (number_ok r h32 s 8 2 2 rfl (by omega) (by omega) (by omega) (by omega) (by simp [rdB, n1])) ?_)
 simp only [rdB, n1, go_sem]
 by_cases g10 : s.length < 12
 ·refine CallVD.same rfl (number_die r h32 s 10 2 2 rfl (by omega) (by omega) (by omega) (by omega) (by omega) (by simp [rdB, n1, Tx.look])) ?_
  exact .dead (ns := [r]) (by simpa using hr) (by simp [UpdAll, updH, setH, n1, n2])
 refine CallVD.live (CallVC.same (number_ok r h32 s 10 2 2 rfl (by omega) (by omega) (by omega) (by omega) (by simp [rdB, n1])) ?_)
 simp only [rdB, n1, go_sem]
 have e8 : getB ((s.drop 8).take 2) = sackG s := rfl
 have e10 : getB ((s.drop 10).take 2) = sackD s := rfl
 have b8 := getB2 s 8
 have b10 := getB2 s 10
 rw [e8] at b8
 rw [e10] at b10
 rw [e8, e10]
 by_cases hg : s.length < 12 + 4 * sackG s
 ·refine CallVD.same rfl (pairs_die r h32 s 12 (sackG s) _ rfl (by omega) (by omega) (by omega) hl (by simp [rdB, n1, Tx.look])) ?_
  exact .dead (ns := [r]) (by simpa using hr) (by simp [UpdAll, updH, setH, n1, n2])
 refine CallVD.live (CallVC.same (pairs_ok r h32 s 12 (sackG s) _ rfl (by omega) hl (by simp [rdB, n1])) ?_)
 simp only [rdB, n1, n2, go_sem]
 repeat refine sd1 ?_
 refine CallVD.same rfl (numbers_die r h32 s (12 + 4 * sackG s) 4 (sackD s) (by omega) (by omega) (by omega) (by omega) (by omega) hl (by simp [rdB, n1, Tx.look])) ?_
 exact .dead (ns := [r]) (by simpa using hr) (by simp [UpdAll, updH, setH, n1, n2])
def resetN (s : List UInt8) : Nat := (s.length - 9) / 2
def askK (s : List UInt8) : List PV :=
 [.int .i64 1, .int .i64 (getB ((s.drop 1).take 4)), .int .i64 (getB ((s.drop 5).take 4)), .int .i64 0, .fs 1 ((numsG s 9 2 (resetN s)).map eN)]
theorem reset1_ok {F : SF} {L nx : Nat} (s : List UInt8) (hs : 9 ≤ s.length) (hl : s.length ≤ 1000000) (r : Nm) (hr : r.l ≤ L) (hFr : F r = some (rdB s 1)) : Con Tryz.prog 95 [.ptr r 0 0] F L nx nx (.agg (askK s)) [(r, rdB s (9 + 2 * resetN s))] [r] := by
 refine bdy Tryz.f95 (hrd := (by simp; omega)) ?_
 intro F3 hF1 hF2
 have kr : F3 r = some (rdB s 1) := (hF1 r (by simp)).trans hFr
 have n1 : ∀ k, (r = (⟨L + 1, k⟩ : Nm)) = False := nm_out hr
 have n2 : ∀ k, ((⟨L + 1, k⟩ : Nm) = r) = False := nm_out' hr
 have h32 : r.l ≤ L + 1 := by omega
 simp only [Tryz.f95, cx, rdB, go_sem, meths]
 refine CallVC.same (number_ok r h32 s 1 4 4 rfl (by omega) (by omega) (by omega) (by omega) (by simp [rdB, kr, n1])) ?_
 simp only [rdB, n1, go_sem]
 refine CallVC.same (number_ok r h32 s 5 4 4 rfl (by omega) (by omega) (by omega) (by omega) (by simp [rdB, n1])) ?_
 simp only [rdB, n1, n2, kr, Nat.add_zero, go_sem]
 have e1 : ((s.length : Int) - ((9 : Nat) : Int)).tdiv 2 = (resetN s : Int) := by
  have : ((s.length : Int) - ((9 : Nat) : Int)) = ((s.length - 9 : Nat) : Int) := by omega
  rw [this, Int.tdiv_eq_ediv_of_nonneg (by omega)]
  simp [resetN]
 have hb : 9 + 2 * resetN s ≤ s.length := by unfold resetN; omega
 simp only [e1]
 have hb2 : resetN s ≤ s.length := by omega
 refine ⟨by kernel_rfl, ⟨by omega, by omega⟩, ⟨by omega, by omega, by omega⟩, ?_⟩
 refine CallVC.same (numbers_ok r h32 s 9 2 (resetN s) (by omega) (by omega) (by omega) hl (by simp [rdB, n1])) ?_
 simp only [rdB, n1, n2, go_sem]
 refine ⟨okDyn_num (fun x => if x = r then 1 else x.i % 10000 + 100) (by simp only [numF, List.map, n2, if_true, if_false]; kernel_rfl), ?_⟩
 exact PostF.of (p := True) (v0 := .agg (askK s)) (.inr rfl) (by simp only [askK, resVal, resVals, resVal1, one, go_sem]) trivial (wk_refl _ _).1 (by rw [(wk_refl (fun _ => none) _).2]; simp) (by rfl) ⟨hr, by simp [BW, Tx.look, n1], trivial⟩ (by simp [UpdAll, keys])
theorem reset1_die {F : SF} {L : Nat} (s : List UInt8) (h1 : 1 ≤ s.length) (hs : s.length < 9) (r : Nm) (hr : r.l ≤ L) (hFr : F r = some (rdB s 1)) : DCon Tryz.prog chM 95 [.ptr r 0 0] F L [(r, .dead)] [r] := by
 refine DCon.body (cxOk (L + 1)) rfl rfl (fn := Tryz.f95) (c := Tryz.f95.body.getD .skip) (by kernel_rfl) (by rfl) (by kernel_rfl) rfl  (by simp; omega) ?_
 intro F3 hF1 hF2
 have kr : F3 r = some (rdB s 1) := (hF1 r (by simp)).trans hFr
 have n1 : ∀ k, (r = (⟨L + 1, k⟩ : Nm)) = False := nm_out hr
 have n2 : ∀ k, ((⟨L + 1, k⟩ : Nm) = r) = False := nm_out' hr
 have h32 : r.l ≤ L + 1 := by omega
 simp only [Tryz.f95, cx, go_sem, meths]
 by_cases g1 : s.length < 5
 ·refine CallVD.same rfl (number_die r h32 s 1 4 4 rfl (by omega) (by omega) (by omega) (by omega) (by omega) (by simp [rdB, kr, n1, Tx.look])) ?_
  exact .dead (ns := [r]) (by simpa using hr) (by simp [UpdAll, updH, setH, n1, n2])
 refine CallVD.live (CallVC.same (number_ok r h32 s 1 4 4 rfl (by omega) (by omega) (by omega) (by omega) (by simp [rdB, kr, n1])) ?_)
 simp only [rdB, n1, go_sem]
 by_cases g5 : s.length < 9
 ·refine CallVD.same rfl (number_die r h32 s 5 4 4 rfl (by omega) (by omega) (by omega) (by omega) (by omega) (by simp [rdB, n1, Tx.look])) ?_
  exact .dead (ns := [r]) (by simpa using hr) (by simp [UpdAll, updH, setH, n1, n2])
 omega
def resetK (s : List UInt8) : List PV :=
 if getB (s.take 1) = 1 then askK s else [.int .i64 2, .int .i64 (getB ((s.drop 1).take 4)), .int .i64 0, .int .i64 (getB ((s.drop 5).take 1)), .fs 1 []]
def resetP (s : List UInt8) : Nat := if getB (s.take 1) = 1 then 9 + 2 * resetN s else 6
def resetMin (s : List UInt8) : Nat := if getB (s.take 1) = 1 then 9 else 6
theorem reset2_ok {F : SF} (na : Nm) (ea : TypeId) (oa pa : Bool) (hc : F na = some (.rows ea 1 oa pa [[.fn (.func 95) [] []]])) (s : List UInt8) (hs : resetMin s ≤ s.length) (hl : s.length ≤ 1000000) : OfOk 97 [] [.ptr na 0 0] s (.agg (resetK s)) (resetP s) F [na] := by
 intro F' L r nx hF' hr hrd hFr
 have hcl : na.l ≤ L := hrd na (by simp)
 have hm1 : 1 ≤ s.length := by unfold resetMin at hs; split at hs <;> omega
 have hne : na ≠ r := by
  rintro rfl
  rw [hF' na (by simp), hc] at hFr
  simp [rdB] at hFr
 simp only [List.nil_append, List.cons_append]
 refine bdy Tryz.f97 (hrd := (by simp; omega)) ?_
 intro F3 hF1 hF2
 have kr : F3 r = some (rdB s 0) := (hF1 r (by simp)).trans hFr
 have kc : F3 na = some (.rows ea 1 oa pa [[.fn (.func 95) [] []]]) := (hF1 na (by simp)).trans ((hF' na (by simp)).trans hc)
 have n1 : ∀ k, (r = (⟨L + 1, k⟩ : Nm)) = False := nm_out hr
 have n2 : ∀ k, ((⟨L + 1, k⟩ : Nm) = r) = False := nm_out' hr
 have c1 : ∀ k, (na = (⟨L + 1, k⟩ : Nm)) = False := nm_out hcl
 have e1 : (na = r) = False := eq_false hne
 have h32 : r.l ≤ L + 1 := by omega
 simp only [Tryz.f97, cx, rdB, go_sem, meths]
 refine CallVC.same (number_ok r h32 s 0 1 1 rfl (by omega) (by omega) (by omega) hl (by simp [rdB, kr, n1])) ?_
 by_cases h1 : getB (s.take 1) = 1
 ·have f1 : (((getB (s.take 1) : Nat) : Int) == 1) = true := by simp [h1]
  simp only [resetMin, if_pos h1] at hs
  simp only [resetK, resetP, if_pos h1]
  simp only [f1, kc, c1, e1, List.drop_zero, rdB, n1, go_sem]
  repeat refine sd1 ?_
  refine CallVC.same (reset1_ok s hs hl r h32 (by simp [rdB, n1])) ?_
  simp only [askK, List.drop_zero, rdB, n1, n2, go_sem]
  repeat refine sd1 ?_
  exact PostF.of (p := True) (v0 := .agg [.int .i64 1, .int .i64 (getB ((s.drop 1).take 4)), .int .i64 (getB ((s.drop 5).take 4)), .int .i64 0, .fs 1 ((numsG s 9 2 (resetN s)).map eN)]) (.inr rfl) (by simp only [resVal, resVals, resVal1, one, go_sem]) trivial (wk_refl _ _).1 (by rw [(wk_refl (fun _ => none) _).2]; simp) (by rfl) ⟨hr, by simp [BW, Tx.look, n1], trivial⟩ (by simp [UpdAll, keys])
 ·have f1 : (((getB (s.take 1) : Nat) : Int) == 1) = false := eqF (by omega)
  simp only [resetMin, if_neg h1] at hs
  simp only [resetK, resetP, if_neg h1]
  simp only [f1, List.drop_zero, rdB, n1, go_sem]
  refine CallVC.same (number_ok r h32 s 1 4 4 rfl (by omega) (by omega) (by omega) hl (by simp [rdB, n1])) ?_
  simp only [rdB, n1, go_sem]
  refine CallVC.same (number_ok r h32 s 5 1 1 rfl (by omega) (by omega) (by omega) hl (by simp [rdB, n1])) ?_
  simp only [List.drop_zero, rdB, n1, n2, go_sem]
  repeat refine sd1 ?_
  exact PostF.of (p := True) (v0 := .agg [.int .i64 2, .int .i64 (getB ((s.drop 1).take 4)), .int .i64 0, .int .i64 (getB ((s.drop 5).take 1)), .nilS]) (.inr rfl) (by simp only [resVal, resVals, resVal1, one, go_sem]) trivial (by simp [Wk, WkL]) (by simp [wkN, wkNL]) (by rfl) ⟨hr, by simp [BW, Tx.look, n1], trivial⟩ (by simp [UpdAll, keys])
theorem reset2_die {F : SF} (na : Nm) (ea : TypeId) (oa pa : Bool) (hc : F na = some (.rows ea 1 oa pa [[.fn (.func 95) [] []]])) (s : List UInt8) (hs : s.length < resetMin s) (hl : s.length ≤ 1000000) : OfDie 97 [] [.ptr na 0 0] s F [na] := by
 intro F' L r hF' hr hrd hFr
 have hcl : na.l ≤ L := hrd na (by simp)
 have hne : na ≠ r := by
  rintro rfl
  rw [hF' na (by simp), hc] at hFr
  simp [rdB] at hFr
 simp only [List.nil_append, List.cons_append]
 refine DCon.body (cxOk (L + 1)) rfl rfl (fn := Tryz.f97) (c := Tryz.f97.body.getD .skip) (by kernel_rfl) (by rfl) (by kernel_rfl) rfl  (by simp; omega) ?_
 intro F3 hF1 hF2
 have kr : F3 r = some (rdB s 0) := (hF1 r (by simp)).trans hFr
 have kc : F3 na = some (.rows ea 1 oa pa [[.fn (.func 95) [] []]]) := (hF1 na (by simp)).trans ((hF' na (by simp)).trans hc)
 have n1 : ∀ k, (r = (⟨L + 1, k⟩ : Nm)) = False := nm_out hr
 have n2 : ∀ k, ((⟨L + 1, k⟩ : Nm) = r) = False := nm_out' hr
 have c1 : ∀ k, (na = (⟨L + 1, k⟩ : Nm)) = False := nm_out hcl
 have e1 : (na = r) = False := eq_false hne
 have h32 : r.l ≤ L + 1 := by omega
 simp only [Tryz.f97, cx, go_sem, meths]
 by_cases h0 : s.length < 1
 ·refine CallVD.same rfl (number_die r h32 s 0 1 1 rfl (by omega) (by omega) (by omega) (by omega) (by omega) (by simp [rdB, kr, n1, Tx.look])) ?_
  exact .dead (ns := [r]) (by simpa using hr) (by simp [UpdAll, updH, setH, n1, n2])
 refine CallVD.live (CallVC.same (number_ok r h32 s 0 1 1 rfl (by omega) (by omega) (by omega) hl (by simp [rdB, kr, n1])) ?_)
 by_cases h1 : getB (s.take 1) = 1
 ·have f1 : (((getB (s.take 1) : Nat) : Int) == 1) = true := by simp [h1]
  simp only [resetMin, if_pos h1] at hs
  simp only [f1, kc, c1, e1, List.drop_zero, rdB, n1, go_sem]
  repeat refine sd1 ?_
  refine CallVD.same rfl (reset1_die s (by omega) hs r h32 (by simp [rdB, n1, Tx.look])) ?_
  exact .dead (ns := [r]) (by simpa using hr) (by simp [UpdAll, updH, setH, n1, n2])
 ·have f1 : (((getB (s.take 1) : Nat) : Int) == 1) = false := eqF (by omega)
  simp only [resetMin, if_neg h1] at hs
  simp only [f1, List.drop_zero, rdB, n1, go_sem]
  by_cases h5 : s.length < 5
  ·refine CallVD.same rfl (number_die r h32 s 1 4 4 rfl (by omega) (by omega) (by omega) (by omega) (by omega) (by simp [rdB, n1, Tx.look])) ?_
   exact .dead (ns := [r]) (by simpa using hr) (by simp [UpdAll, updH, setH, n1, n2])
  refine CallVD.live (CallVC.same (number_ok r h32 s 1 4 4 rfl (by omega) (by omega) (by omega) hl (by simp [rdB, n1])) ?_)
  simp only [rdB, n1, go_sem]
  refine CallVD.same rfl (number_die r h32 s 5 1 1 rfl (by omega) (by omega) (by omega) (by omega) (by omega) (by simp [rdB, n1, Tx.look])) ?_
  exact .dead (ns := [r]) (by simpa using hr) (by simp [UpdAll, updH, setH, n1, n2])
theorem con_rds {P : Program} {f : FuncId} {args : List PV} {F : SF} {L nx top : Nat} {v : PV} {upd : List (Nm × SBlk)} {rd rd' : List Nm} (h : Con P f args F L nx top v upd rd) (hs : ∀ n ∈ rd, n ∈ rd') : Con P f args F L nx top v upd rd' :=
 ⟨h.1, fun F2 h2 => h.2 F2 fun n hn => h2 n (hs n hn)⟩
def datG (c : Ckx) : Dat := ⟨getB (c.bd.take 4), getB ((c.bd.drop 4).take 2), getB ((c.bd.drop 6).take 2), getB ((c.bd.drop 8).take 4), decide (Sx.ibits .and .i64 c.fl 2 > 0), decide (Sx.ibits .and .i64 c.fl 1 > 0), decide (Sx.ibits .and .i64 c.fl 4 > 0), c.bd.drop 12⟩
def datOk (c : Ckx) : Bool := decide (12 ≤ c.bd.length) && ((datG c).ok && (decide (flD (datG c).la (datG c).fi (datG c).lo 3 = c.fl) && decide (dataB (datG c) = c.bd)))
def zDat : Dat := ⟨0, 0, 0, 0, false, false, false, []⟩
def getDatV (c : Ckx) : PV := if c.kd = 0 then (if datOk c then .tup [.agg (datG c).row, .int .i64 0] else .tup [.agg zDat.row, .int .i64 5]) else .tup [.agg zDat.row, .int .i64 2]
theorem getDataT_ok {F : SF} {L nx : Nat} (c : Ckx) (hl : c.bd.length ≤ 1000000) : Con Tryz.prog 43 [.agg c.row] F L nx nx (getDatV c) [] [] := by
 have hcall : ∀ (F : SF) (L nx : Nat) (nc : Nm) (oc : Bool), nc.l ≤ L → F nc = some (.rows 34 3 oc true [c.row]) → Con Tryz.prog 84 [.agg c.row, .fn (.func 85) [] [.ptr nc 0 0], .fn (.func 21) [] [], .fs 1 ([0].map eI)] F L nx nx (getDatV c) [] [nc] := by
  intro F L nx nc oc hn hF
  obtain ⟨k, fl, s⟩ := c
  simp only [Ckx.row] at hF hl ⊢
  unfold getDatV
  by_cases hk : k = 0
  ·subst hk
   have hk1 : (([0] : List Int).any fun x => (0 : Int) == x) = true := rfl
   rw [if_pos rfl]
   have hP : PutOk 21 (datG ⟨0, fl, s⟩).row (if (datG ⟨0, fl, s⟩).ok then 0 else 0) (if (datG ⟨0, fl, s⟩).ok then flD (datG ⟨0, fl, s⟩).la (datG ⟨0, fl, s⟩).fi (datG ⟨0, fl, s⟩).lo 3 else 0) (if (datG ⟨0, fl, s⟩).ok then dataB (datG ⟨0, fl, s⟩) else []) (if (datG ⟨0, fl, s⟩).ok then 0 else 320) := by
    intro F L nx
    have h := putData_ok (F := F) (L := L) (nx := nx) (datG ⟨0, fl, s⟩)
    cases hb : (datG ⟨0, fl, s⟩).ok with
    | true => rw [hb] at h; simpa using h
    | false => rw [hb] at h; simpa using h
   by_cases h12 : 12 ≤ s.length
   ·have hO := data1_ok (F := F) nc 0 fl s s oc hF h12 hl
    rw [show datK fl s = (datG ⟨0, fl, s⟩).row from rfl] at hO
    cases hd : datOk ⟨0, fl, s⟩ with
    | true =>
     rw [if_pos rfl]
     unfold datOk at hd
     simp only [Bool.and_eq_true, decide_eq_true_eq] at hd
     obtain ⟨_, q1, q2, q3⟩ := hd
     rw [q1] at hP
     simp only [if_true, q2, q3] at hP
     exact getData_ok s hl 0 fl 85 21 [] [.ptr nc 0 0] [0] hk1 (by simp) _ rfl rfl [nc] (by simpa using hn) hO hP
    | false =>
     rw [if_neg (by simp)]
     refine getData_bad s hl 0 fl 85 21 [] [.ptr nc 0 0] [0] hk1 (by simp) [nc] (by simpa using hn) (.inr (.inr ⟨_, _, _, _, _, rfl, rfl, hO, hP, ?_⟩))
     rintro ⟨r1, r2, r3, r4⟩
     cases hb : (datG ⟨0, fl, s⟩).ok with
     | false => rw [hb] at r1; simp at r1
     | true =>
      rw [hb] at r3 r4
      simp only [if_true] at r3 r4
      unfold datOk at hd
      simp only [hb, r3, r4, h12, decide_true, Bool.and_true] at hd
      cases hd
   ·have hd : datOk ⟨0, fl, s⟩ = false := by unfold datOk; rw [decide_eq_false (show ¬ 12 ≤ (Ckx.mk 0 fl s).bd.length from h12)]; rfl
    rw [hd, if_neg (by simp)]
    exact getData_bad s hl 0 fl 85 21 [] [.ptr nc 0 0] [0] hk1 (by simp) [nc] (by simpa using hn) (.inl (data1_die nc s (by omega)))
  ·rw [if_neg hk]
   exact con_rds (getData_kind s k fl 85 21 [] [.ptr nc 0 0] [0] (by simpa using hk) (by simp)) (by simp)
 have hv : ∃ d e, getDatV c = .tup [.agg (Dat.row d), .int .i64 e] := by
  unfold getDatV
  split
  ·split
   ·exact ⟨_, _, rfl⟩
   ·exact ⟨_, _, rfl⟩
  ·exact ⟨_, _, rfl⟩
 obtain ⟨d, e, hv⟩ := hv
 rw [hv] at hcall ⊢
 simp only [Ckx.row, Dat.row] at hcall ⊢
 refine bdy Tryz.f43 ?_
 intro F3 hF1 hF2
 simp only [Tryz.f43, cx, go_sem, meths]
 repeat refine sd2 ?_
 refine CallVC.gen (args2 := [.agg [.int .i64 c.kd, .int .i64 c.fl, .str c.bd], .fn (.func 85) [] [.ptr ⟨L + 1, 0⟩ 0 0], .fn (.func 21) [] [], .fs 1 ([0].map eI)]) (by simp [WkL, Wk, eI]) (hcall _ _ _ ⟨L + 1, 0⟩ true (by simp) (by simp [wkNL, wkN, unown, SF.upd, SF.set])) ?_
 simp only [wkNL, wkN, unown, go_sem]
 repeat refine sd2 ?_
 exact PostF.same (p := True) (.inr rfl) (by simp only [resVal, resVals, resVal1, one, go_sem]) trivial (by simp [Tx.nf, nfl]) (by simp [UpdAll])
def iniG (c : Ckx) : Ini := ⟨getB (c.bd.take 4), getB ((c.bd.drop 4).take 4), getB ((c.bd.drop 8).take 2), getB ((c.bd.drop 10).take 2), getB ((c.bd.drop 12).take 4), c.bd.drop 16⟩
def iniOk (c : Ckx) : Bool := decide (16 ≤ c.bd.length) && ((iniG c).ok && (decide (iniK (iniG c).ck = c.kd) && (decide ((0 : Int) = c.fl) && decide ((iniG c).oct = c.bd))))
def zIni : Ini := ⟨0, 0, 0, 0, 0, []⟩
def getIniV (c : Ckx) : PV := if c.kd = 1 ∨ c.kd = 2 then (if iniOk c then .tup [.agg (iniG c).row, .int .i64 0] else .tup [.agg zIni.row, .int .i64 5]) else .tup [.agg zIni.row, .int .i64 2]
theorem getInitT_ok {F : SF} {L nx : Nat} (c : Ckx) (hl : c.bd.length ≤ 1000000) : Con Tryz.prog 44 [.agg c.row] F L nx nx (getIniV c) [] [] := by
 have hcall : ∀ (F : SF) (L nx : Nat), Con Tryz.prog 87 [.agg c.row, .fn (.func 88) [] [], .fn (.func 30) [] [], .fs 1 ([1, 2].map eI)] F L nx nx (getIniV c) [] [] := by
  intro F L nx
  obtain ⟨k, fl, s⟩ := c
  simp only [Ckx.row] at hl ⊢
  unfold getIniV
  by_cases hk : k = 1 ∨ k = 2
  ·have hk1 : (([1, 2] : List Int).any fun x => k == x) = true := by simpa using hk
   rw [if_pos hk]
   obtain ⟨d, hdd⟩ : ∃ d, d = iniG ⟨k, fl, s⟩ := ⟨_, rfl⟩
   rw [← hdd]
   have hP : PutOk 30 d.row (if d.ok then iniK d.ck else 0) 0 (if d.ok then d.oct else []) (if d.ok then 0 else 320) := by
    intro F L nx
    have h := putInit_ok (F := F) (L := L) (nx := nx) d
    cases hb : d.ok with
    | true => rw [hb] at h; simpa using h
    | false => rw [hb] at h; simpa using h
   by_cases h12 : 16 ≤ s.length
   ·have hO := init1_ok (F := F) s h12 hl
    rw [show initK s = d.row by rw [hdd]; rfl] at hO
    cases hd : iniOk ⟨k, fl, s⟩ with
    | true =>
     rw [if_pos rfl]
     unfold iniOk at hd
     rw [← hdd] at hd
     simp only [Bool.and_eq_true, decide_eq_true_eq] at hd
     obtain ⟨_, q1, q2, q3, q4⟩ := hd
     rw [q1] at hP
     simp only [if_true, q2, q4] at hP
     subst q3
     exact getInit_ok s hl k 0 88 30 [] [] [1, 2] hk1 (by simp) _ rfl rfl [] (by simp) hO hP
    | false =>
     rw [if_neg (by simp)]
     refine getInit_bad s hl k fl 88 30 [] [] [1, 2] hk1 (by simp) [] (by simp) (.inr (.inr ⟨_, _, _, _, _, rfl, rfl, hO, hP, ?_⟩))
     rintro ⟨r1, r2, r3, r4⟩
     cases hb : d.ok with
     | false => rw [hb] at r1; simp at r1
     | true =>
      rw [hb] at r2 r4
      simp only [if_true] at r2 r4
      unfold iniOk at hd
      rw [← hdd] at hd
      simp only [hb, r2, r3, r4, h12, decide_true, Bool.and_true] at hd
      cases hd
   ·have hd : iniOk ⟨k, fl, s⟩ = false := by unfold iniOk; rw [decide_eq_false (show ¬ 16 ≤ (Ckx.mk k fl s).bd.length from h12)]; rfl
    rw [hd, if_neg (by simp)]
    exact getInit_bad s hl k fl 88 30 [] [] [1, 2] hk1 (by simp) [] (by simp) (.inl (init1_die s (by omega)))
  ·rw [if_neg hk]
   exact getInit_kind s k fl 88 30 [] [] [1, 2] (by simpa using hk) (by simp)
 have hv : ∃ d e, getIniV c = .tup [.agg (Ini.row d), .int .i64 e] := by
  unfold getIniV
  split
  ·split
   ·exact ⟨_, _, rfl⟩
   ·exact ⟨_, _, rfl⟩
  ·exact ⟨_, _, rfl⟩
 obtain ⟨d, e, hv⟩ := hv
 rw [hv] at hcall ⊢
 simp only [Ckx.row, Ini.row] at hcall ⊢
 refine bdy Tryz.f44 ?_
 intro F3 hF1 hF2
 simp only [Tryz.f44, cx, go_sem, meths]
 repeat refine sd2 ?_
 refine CallVC.gen (args2 := [.agg [.int .i64 c.kd, .int .i64 c.fl, .str c.bd], .fn (.func 88) [] [], .fn (.func 30) [] [], .fs 1 ([1, 2].map eI)]) (by simp [WkL, Wk, eI]) (hcall _ _ _) ?_
 simp only [wkNL, wkN, unown, go_sem]
 repeat refine sd2 ?_
 exact PostF.same (p := True) (.inr rfl) (by simp only [resVal, resVals, resVal1, one, go_sem]) trivial (by simp [Tx.nf, nfl]) (by simp [UpdAll])
structure Skx where
 cum : Int
 win : Int
 gs : List (Int × Int)
 ds : List Int
def Skx.v (d : Skx) : PV := sackP d.cum d.win d.gs d.ds
def Skx.ok (d : Skx) : Bool := sackV d.cum d.win d.gs d.ds
def Skx.oct (d : Skx) : List UInt8 := sackO d.cum d.win d.gs d.ds
def sckG (c : Ckx) : Skx := ⟨getB (c.bd.take 4), getB ((c.bd.drop 4).take 4), (pairsG c.bd 12 (sackG c.bd)).map kN, (numsG c.bd (12 + 4 * sackG c.bd) 4 (sackD c.bd)).map fun x : Nat => (x : Int)⟩
theorem sckG_row (c : Ckx) : PV.agg (sackK c.bd) = (sckG c).v := by
 simp only [sackK, sckG, Skx.v, sackP, List.map_map]
 congr 2
def sckN (s : List UInt8) : Nat := 12 + 4 * sackG s + 4 * sackD s
def sckOk (c : Ckx) : Bool := decide (sckN c.bd = c.bd.length) && ((sckG c).ok && (decide ((0 : Int) = c.fl) && decide ((sckG c).oct = c.bd)))
def zSck (e : Int) : PV := .tup [.agg [.int .i64 0, .int .i64 0, .nilS, .nilS], .int .i64 e]
def getSckV (c : Ckx) : PV := if c.kd = 3 then (if sckOk c then .tup [(sckG c).v, .int .i64 0] else zSck 5) else zSck 2
theorem getSackT_ok {F : SF} {L nx : Nat} (c : Ckx) (hl : c.bd.length ≤ 1000000) : Con Tryz.prog 45 [.agg c.row] F L nx nx (getSckV c) [] [] := by
 have hcall : ∀ (F : SF) (L nx : Nat), Con Tryz.prog 89 [.agg c.row, .fn (.func 90) [] [], .fn (.func 26) [] [], .fs 1 ([3].map eI)] F L nx nx (getSckV c) [] [] := by
  intro F L nx
  obtain ⟨k, fl, s⟩ := c
  simp only [Ckx.row] at hl ⊢
  unfold getSckV
  by_cases hk : k = 3
  ·have hk1 : (([3] : List Int).any fun x => k == x) = true := by simpa using hk
   rw [if_pos hk]
   obtain ⟨d, hdd⟩ : ∃ d, d = sckG ⟨k, fl, s⟩ := ⟨_, rfl⟩
   rw [← hdd]
   have hrow : PV.agg (sackK s) = d.v := by rw [hdd]; exact sckG_row ⟨k, fl, s⟩
   have hG : sackG s < 65536 := getB2 s 8
   have hD : sackD s < 65536 := getB2 s 10
   have hP : PutOk 26 (sackK s) (if d.ok then 3 else 0) 0 (if d.ok then d.oct else []) (if d.ok then 0 else 320) := by
    intro F L nx
    have h := putSack_ok (F := F) (L := L) (nx := nx) d.cum d.win d.gs d.ds (by rw [hdd]; simp [sckG, pairsG_len]; omega) (by rw [hdd]; simp [sckG, numsG_len]; omega)
    rw [hrow]
    have e : sackV d.cum d.win d.gs d.ds = d.ok := rfl
    rw [e] at h
    cases hb : d.ok with
    | true => rw [hb] at h; simp only [if_true] at h ⊢; exact h
    | false => rw [hb] at h; simp only [if_false, Bool.false_eq_true] at h ⊢; exact h
   by_cases h12 : s.length < sckN s ∨ s.length < 12
   ·have hd : sckOk ⟨k, fl, s⟩ = false := by
     unfold sckOk
     rw [decide_eq_false (by simp only [sckN] at h12 ⊢; omega)]; rfl
    rw [hd, if_neg (by simp)]
    exact getSack_bad s hl k fl 90 26 [] [] [3] hk1 (by simp) [] (by simp) (.inl (sack1_die s h12 hl))
   ·have hO := sack1_ok (F := F) s (by simp only [sckN] at h12; omega) hl
    by_cases hne : sckN s = s.length
    ·rw [show 12 + 4 * sackG s + 4 * sackD s = s.length from hne] at hO
     cases hd : sckOk ⟨k, fl, s⟩ with
     | true =>
      rw [if_pos rfl]
      unfold sckOk at hd
      rw [← hdd] at hd
      simp only [Bool.and_eq_true, decide_eq_true_eq] at hd
      obtain ⟨_, q1, q3, q4⟩ := hd
      rw [q1] at hP
      simp only [if_true, q4] at hP
      subst q3
      subst hk
      rw [← hrow]
      exact getSack_ok s hl 3 0 90 26 [] [] [3] hk1 (by simp) _ rfl rfl [] (by simp) hO hP
     | false =>
      rw [if_neg (by simp)]
      refine getSack_bad s hl k fl 90 26 [] [] [3] hk1 (by simp) [] (by simp) (.inr (.inr ⟨_, _, _, _, _, rfl, rfl, hO, hP, ?_⟩))
      rintro ⟨r1, r2, r3, r4⟩
      cases hb : d.ok with
      | false => rw [hb] at r1; simp at r1
      | true =>
       rw [hb] at r2 r4
       simp only [if_true] at r2 r4
       unfold sckOk at hd
       rw [← hdd] at hd
       simp only [hb, r3, r4, hne, decide_true, Bool.and_true] at hd
       cases hd
    ·have hd : sckOk ⟨k, fl, s⟩ = false := by
      unfold sckOk
      rw [decide_eq_false hne]; rfl
     rw [hd, if_neg (by simp)]
     exact getSack_bad s hl k fl 90 26 [] [] [3] hk1 (by simp) [] (by simp) (.inr (.inl ⟨_, _, rfl, rfl, hne, hO⟩))
  ·rw [if_neg hk]
   exact getSack_kind s k fl 90 26 [] [] [3] (by simpa using hk) (by simp)
 have hv : ∃ x1 x2 x3 x4 e, getSckV c = .tup [.agg [.int .i64 x1, .int .i64 x2, x3, x4], .int .i64 e] ∧ Tx.nf x3 = true ∧ Tx.nf x4 = true := by
  unfold getSckV
  split
  ·split
   ·exact ⟨_, _, _, _, _, rfl, rfl, rfl⟩
   ·exact ⟨_, _, _, _, _, rfl, rfl, rfl⟩
  ·exact ⟨_, _, _, _, _, rfl, rfl, rfl⟩
 obtain ⟨x1, x2, x3, x4, e, hv, y3, y4⟩ := hv
 rw [hv] at hcall ⊢
 simp only [Ckx.row] at hcall ⊢
 refine bdy Tryz.f45 ?_
 intro F3 hF1 hF2
 simp only [Tryz.f45, cx, go_sem, meths]
 repeat refine sd2 ?_
 refine CallVC.gen (args2 := [.agg [.int .i64 c.kd, .int .i64 c.fl, .str c.bd], .fn (.func 90) [] [], .fn (.func 26) [] [], .fs 1 ([3].map eI)]) (by simp [WkL, Wk, eI]) (hcall _ _ _) ?_
 simp only [wkNL, wkN, unown, go_sem]
 repeat refine sd2 ?_
 exact PostF.same (p := True) (.inr rfl) (by simp only [resVal, resVals, resVal1, one, go_sem]) trivial (by simp [Tx.nf, nfl, y3, y4]) (by simp [UpdAll])
def e2 (x : Nat × Nat) : List PV := [.int .u8 x.1, .int .u8 x.2]
structure Pcx where
 w : Nat
 a : Nat
 b : Nat
 c : Nat
 d : Nat
 l : List (Nat × Nat)
 pl : List UInt8
def Pcx.row (p : Pcx) : List PV := [.int .u8 p.w, .int .u32 p.a, .int .u32 p.b, .int .u32 p.c, .int .u32 p.d, .fs 2 (p.l.map e2), .str p.pl]
structure Pcx.Ok (p : Pcx) : Prop where
 w : p.w < 256
 a : p.a < 4294967296
 b : p.b < 4294967296
 c : p.c < 4294967296
 d : p.d < 4294967296
 l : ∀ x ∈ p.l, x.1 < 256 ∧ x.2 < 256
 ll : p.l.length ≤ maxLen
 pl : p.pl.length ≤ maxLen
def Pcx.lo (p : Pcx) : Bool := decide (0 < Go.Sx.ibits .and .u8 p.w 32)
def Pcx.m8 (p : Pcx) : Bool := decide (0 < Go.Sx.ibits .and .u8 p.w 8)
def Pcx.dat (p : Pcx) : Dat := ⟨p.a, ((p.b % 65536 : Nat) : Int), if p.lo then 0 else ((p.c % 65536 : Nat) : Int), p.d, p.m8, decide (0 < Go.Sx.ibits .and .u8 p.w 16), p.lo, someX p.pl 100⟩
theorem tmL (a : Nat) (n : Int) (hn : 0 < n) : ((a : Int).tmod n) = ((a % n.toNat : Nat) : Int) := by
 rw [Int.tmod_eq_emod_of_nonneg (by omega)]
 have : n = (n.toNat : Int) := by omega
 rw [this, ← Int.natCast_emod]
 simp
theorem tdL (a : Nat) (n : Int) (hn : 0 < n) : ((a : Int).tdiv n) = ((a / n.toNat : Nat) : Int) := by
 rw [Int.tdiv_eq_ediv_of_nonneg (by omega)]
 have : n = (n.toNat : Int) := by omega
 rw [this, ← Int.natCast_ediv]
 simp
theorem pData_ok {F : SF} {L nx : Nat} (p : Pcx) (hp : p.Ok) : Con Tryz.prog 20 [.agg p.row] F L nx nx (.agg p.dat.row) [] [] := by
 obtain ⟨hw, ha, hb, hc, hd, hl, hll, hpl⟩ := hp
 have tb : (p.b : Int).tmod 65536 = ((p.b % 65536 : Nat) : Int) := tmL p.b 65536 (by omega)
 have tc : (p.c : Int).tmod 65536 = ((p.c % 65536 : Nat) : Int) := tmL p.c 65536 (by omega)
 refine bdy Tryz.f20 ?_
 intro F3 hF1 hF2
 cases hlo : p.lo with
 | true =>
  have k1 : decide (0 < Go.Sx.ibits .and .u8 p.w 32) = true := hlo
  simp only [Tryz.f20, cx, Pcx.row, k1, tb, tc, Nat.add_zero, go_sem, meths]
  repeat refine sd2 ?_
  refine CallVC.same (rSome_ok p.pl 100 _ rfl hpl) ?_
  simp only [go_sem]
  refine ⟨okDyn_num (fun x => x.i) (by kernel_rfl), ?_⟩
  exact PostF.same (p := True) (.inr rfl) (by simp only [Dat.row, Pcx.dat, Pcx.m8, hlo, resVal, resVals, resVal1, one, go_sem]; try rfl) trivial (by simp [Dat.row, Tx.nf, nfl]) (by simp [UpdAll])
 | false =>
  have k1 : decide (0 < Go.Sx.ibits .and .u8 p.w 32) = false := hlo
  simp only [Tryz.f20, cx, Pcx.row, k1, tb, tc, Nat.add_zero, go_sem, meths]
  repeat refine sd2 ?_
  refine CallVC.same (rSome_ok p.pl 100 _ rfl hpl) ?_
  simp only [go_sem]
  refine ⟨okDyn_num (fun x => x.i) (by kernel_rfl), ?_⟩
  exact PostF.same (p := True) (.inr rfl) (by simp only [Dat.row, Pcx.dat, Pcx.m8, hlo, resVal, resVals, resVal1, one, go_sem]; try rfl) trivial (by simp [Dat.row, Tx.nf, nfl]) (by simp [UpdAll])
def Pcx.ini (p : Pcx) (ck : Bool) : Ini := ⟨max 1 (p.a : Int), p.b, 1 + ((p.c % 65535 : Nat) : Int), 1 + ((p.c / 65536 % 65535 : Nat) : Int), p.d, if ck then someX p.pl 200 else []⟩
theorem pInit_ok {F : SF} {L nx : Nat} (p : Pcx) (hp : p.Ok) (ck : Bool) : Con Tryz.prog 29 [.agg p.row, .bool ck] F L nx nx (.agg (p.ini ck).row) [] [] := by
 obtain ⟨hw, ha, hb, hc, hd, hl, hll, hpl⟩ := hp
 have tb : (p.c : Int).tmod 65535 = ((p.c % 65535 : Nat) : Int) := tmL p.c 65535 (by omega)
 have tc : (p.c : Int).tdiv 65536 = ((p.c / 65536 : Nat) : Int) := tdL p.c 65536 (by omega)
 have tw : IntKind.u32.wrap ((p.c / 65536 : Nat) : Int) = ((p.c / 65536 : Nat) : Int) := by rw [IntKind.wrap_u32]; omega
 have td : ((p.c / 65536 : Nat) : Int).tmod 65535 = ((p.c / 65536 % 65535 : Nat) : Int) := tmL (p.c / 65536) 65535 (by omega)
 refine bdy Tryz.f29 ?_
 intro F3 hF1 hF2
 cases ck with
 | true =>
  simp only [Tryz.f29, cx, Pcx.row, tb, tc, tw, td, Nat.add_zero, go_sem, meths]
  repeat refine sd2 ?_
  refine CallVC.same (rSome_ok p.pl 200 _ rfl hpl) ?_
  simp only [go_sem]
  repeat refine sd2 ?_
  exact PostF.same (p := True) (.inr rfl) (by simp only [Ini.row, Pcx.ini, resVal, resVals, resVal1, one, go_sem]; try rfl) trivial (by simp [Ini.row, Tx.nf, nfl]) (by simp [UpdAll])
 | false =>
  simp only [Tryz.f29, cx, Pcx.row, tb, tc, tw, td, Nat.add_zero, go_sem, meths]
  repeat refine sd2 ?_
  exact PostF.same (p := True) (.inr rfl) (by simp only [Ini.row, Pcx.ini, resVal, resVals, resVal1, one, go_sem]; try rfl) trivial (by simp [Ini.row, Tx.nf, nfl]) (by simp [UpdAll])
end Go.Proofs.YtaacfnngodhecaaGreatDoor
end
